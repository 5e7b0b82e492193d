-- Written by a program of this session (a patched copy of the kit's print.py, over given contracts proved by hand). Lean checks it.
import Derived.Test.YtaagfllcfkjkgaaPGx0
import Derived.Test.YtaagfllcfkjkgaaPGx1
import Derived.Lib.Hide
import Derived.Laws.CopyOwn
import Derived.Test.YtaagfllcfkjkgaaFl
import Derived.Test.YtaagfllcfkjkgaaSg
namespace Go.Proofs.Ytaagfllcfkjkgaa.PG
open Go.RowKit Go.Proofs.YtaagfllcfkjkgaaW.PrintWords Go.Proofs.YtaagfllcfkjkgaaW.PrintLast Go.Proofs.YtaagfllcfkjkgaaW.PrintMore
attribute [local go_sem] max2_int min2_int max_two min_two max_three min_three max_four min_four   -- for this text's walks alone
set_option linter.unusedVariables false
set_option linter.unusedSimpArgs false

-- IMPORT Sg Fl
-- LIB Derived.Lib.Hide Derived.Laws.CopyOwn
/-! ### gf256_Log: function 26 -/
def powV (j : Nat) : Value := .int .u8 (I (Gf.pow 2#8 j))
theorem dbl_pow : ∀ a : Gf.F, Gf.mul a 2#8 = Gf.dbl a := by decide +kernel
theorem powV_one (j : Nat) : (powV j).oneCell' = true := rfl
set_option maxHeartbeats 8000000 in
set_option maxRecDepth 100000 in
theorem gf256_powers.calls (w : World) : Calls Try.prog 37 #[] w fun e w' => e = .returned (.agg (fillT powV 255 (zArr (.int .u8 0) 255))) ∧ Aside0 (Below w.heap.size w w') := by
  have HI := Aside0.mk (show (Try.prog.info? 52).map (·.size) = some (fillT powV 255 (zArr (.int .u8 0) 255)).size by rw [fillT_size, zArr_size]; kernel_rfl)
  have H1 := Aside0.mk (fillT_one powV powV_one 255 (zArr (.int .u8 0) 255) (zArr_one _ rfl _))
  have HS := Aside0.mk (fillT_size powV 255 (zArr (.int .u8 0) 255)).symm
  have HZV := Aside0.mk (show ∀ w : World, (zeroValue 52).run Try.prog w = .ok (.agg (zArr (.int .u8 0) 255)) w from fun _ => by kernel_rfl)
  go_enter Try.func37, Try.ntmps37
  go_wp2_with ((with_reducible refine alloc_arr rfl 52 rfl (zArr (.int .u8 0) 255) HZV.out ?_))
  go_loopw [2, 4] (fun x i wr => ∃ j : Nat, j ≤ 255 ∧ i = .int .i64 j ∧ x = powV j ∧ Aside0 (wr.heap[w.heap.size]? = some (.cells (zArr (.int .u8 0) 255) 52 (0, 0))) ∧ Aside0 (wr.heap[w.heap.size + 1]? = some (.cells (fillT powV j (zArr (.int .u8 0) 255)) 52 (0, 0))) ∧ Aside0 (Below w.heap.size w wr)) (fun _ i _ => 255 - (intOf i).toNat)
  case atStart => exact ⟨0, Nat.zero_le _, rfl, rfl, ⟨blk_alloc (blk_new _ _) _⟩, ⟨by rw [fillT]; have := blk_new (w.alloc (.cells (zArr (.int .u8 0) 255) 52)) (.cells (zArr (.int .u8 0) 255) 52); simpa using this⟩, ⟨((Below.refl _ _).alloc (Nat.le_refl _) _).alloc (by simp) _⟩⟩
  case round =>
    obtain ⟨j, hj, rfl, rfl, HZ, HT, HB⟩ := hrel
    by_cases hlt : j < 255
    · obtain ⟨u, hu⟩ : ∃ u, (fillT powV j (zArr (.int .u8 0) 255))[j]? = some u := ⟨_, Array.getElem?_eq_getElem (by rw [fillT_size, zArr_size]; exact hlt)⟩
      have hc := (blk_cell HT.out j).trans hu
      have hf := blk_frozen HT.out j
      clear hu
      have HD := Aside0.mk (double_I (Gf.pow 2#8 j))
      have hv : powV j = .int .u8 (I (Gf.pow 2#8 j)) := rfl
      rw [hv]
      clear hv
      go_wp2_with (go_at_call 33; refine (gf256_double.calls _ _ _ HD.out).mono ?_; rintro e w' ⟨rfl, ⟨nd, rfl⟩⟩)
      go_roundw
      case rel => exact ⟨j + 1, hlt, by go_num, by rw [powV, Gf.pow, dbl_pow], ⟨blk_drewN (blk_far HZ.out (by simp) _) nd⟩, ⟨blk_drewN (blk_set HT.out j _) nd⟩, ⟨pw_below_drewN (HB.out.setCell (Nat.le_succ _) _) nd⟩⟩
      case measure => simp [intOf]; omega
    · obtain rfl : j = 255 := by omega
      go_wp2_with (first
        | (with_reducible refine wpList_load_row rfl 52 (.tmp 1) rfl (w.heap.size + 1) rfl 52 _ (0, 0) _ HT.out Try.underlying52 rfl HI.out ?_)
        | (with_reducible refine wpList_store_row rfl 52 (.tmp 0) (.tmp 13) rfl w.heap.size (fillT powV 255 (zArr (.int .u8 0) 255)) rfl rfl 52 (zArr (.int .u8 0) 255) HZ.out HI.out HS.out H1.out ?_))
      exact bodyPost_ret (results_cell_row rfl _ _ w.heap.size 52 _ (0, 0) _ rfl (setRow_heap _ _ _ _ _ _ HZ.out) Try.underlying52 rfl HI.out) rfl ⟨rfl, ⟨below_setRow HB.out (Nat.le_refl _) _⟩⟩
/-- The exponent from j on at which the power of 2 is a. -/
def logN (a : Gf.F) : Nat → Nat → Nat
  | 0, j => j
  | d + 1, j => if Gf.pow 2#8 j = a then j else logN a d (j + 1)
def gf256_Log.f (a0 : Int) : Option (Int × Int) := if 0 ≤ a0 ∧ a0 < 256 then (if logN (Fi a0) 255 0 < 255 then some ((logN (Fi a0) 255 0 : Nat), 0) else some (0, 1)) else none
def logR (a : Gf.F) (r1 r2 : Int) (j : Nat) : Prop := (if logN a (255 - j) j < 255 then some (((logN a (255 - j) j : Nat) : Int), (0 : Int)) else some (0, 1)) = some (r1, r2)
theorem logR_hit {a : Gf.F} {r1 r2 : Int} {j : Nat} (hj : j < 255) (h : logR a r1 r2 j) (e : Gf.pow 2#8 j = a) : r1 = (j : Int) ∧ r2 = 0 := by
  unfold logR at h
  obtain ⟨d, hd⟩ : ∃ d, 255 - j = d + 1 := ⟨254 - j, by omega⟩
  rw [hd, logN, if_pos e, if_pos hj] at h
  have := Option.some.inj h
  rw [Prod.mk.injEq] at this
  exact ⟨this.1.symm, this.2.symm⟩
theorem logR_miss {a : Gf.F} {r1 r2 : Int} {j : Nat} (hj : j < 255) (h : logR a r1 r2 j) (e : ¬ Gf.pow 2#8 j = a) : logR a r1 r2 (j + 1) := by
  unfold logR at h ⊢
  rw [show 255 - j = (255 - (j + 1)) + 1 by omega, logN, if_neg e] at h
  exact h
theorem logR_end {a : Gf.F} {r1 r2 : Int} (h : logR a r1 r2 255) : r1 = 0 ∧ r2 = 1 := by
  unfold logR at h
  rw [Nat.sub_self, logN, if_neg (by decide)] at h
  have := Option.some.inj h
  rw [Prod.mk.injEq] at this
  exact ⟨this.1.symm, this.2.symm⟩
set_option maxHeartbeats 8000000 in
set_option maxRecDepth 100000 in
theorem gf256_Log.calls (a0 : Int) (r1 : Int) (r2 : Int) (w : World) (h : gf256_Log.f a0 = some (r1, r2)) :
    Calls Try.prog 26 #[.int .u8 a0] w fun e w' => e = .returned (.tuple #[.int .i64 r1, .int .i64 r2]) ∧ Below w.heap.size w w' := by
  unfold gf256_Log.f at h
  by_cases hc : 0 ≤ a0 ∧ a0 < 256
  · rw [if_pos hc] at h
    have HA := Aside0.mk (I_Fi hc.1 hc.2)
    have HL := Aside0.mk (show logR (Fi a0) r1 r2 0 from h)
    clear h hc
    obtain ⟨i5, hi5, _, hs5, _⟩ := info_parts info5
    have H5 := Aside0.mk hi5
    have S5 := Aside0.mk hs5
    clear hi5 hs5
    go_enter Try.func26, Try.ntmps26
    go_wp2_with (go_at_call 37; refine (gf256_powers.calls _).mono ?_; rintro e w1 ⟨rfl, HB⟩)
    go_loopw [7] (fun i wr => ∃ j : Nat, j ≤ 255 ∧ i = .int .i64 j ∧ Aside0 (logR (Fi a0) r1 r2 j) ∧ Aside0 (Below w.heap.size w wr)) (fun i _ => 255 - (intOf i).toNat)
    case atStart => exact ⟨0, Nat.zero_le _, rfl, HL, HB⟩
    case round =>
      clear HL HB
      obtain ⟨j, hj, rfl, HL, HB⟩ := hrel
      by_cases hlt : j < 255
      · have hix := run_index_in (P := Try.prog) 52 5 255 (fillT powV 255 (zArr (.int .u8 0) 255)) .i64 j (.int .u8 (I (Gf.pow 2#8 j))) i5 .u8 Try.underlying52 Try.underlying5 H5.out S5.out hlt (fillT_at _ _ _ (by rw [zArr_size]; decide) _ hlt)
        by_cases he : Gf.pow 2#8 j = Fi a0
        · have HE := Aside0.mk (logR_hit hlt HL.out he)
          have ht : (I (Gf.pow 2#8 j) == a0) = true := by rw [he, HA.out]; exact beq_self_eq_true _
          clear he
          go_wp2_with fail
          go_ret2
          exact ⟨by obtain ⟨e1, e2⟩ := HE.out; subst e1; subst e2; rfl, HB.out⟩
        · have HE := Aside0.mk (logR_miss hlt HL.out he)
          have ht : (I (Gf.pow 2#8 j) == a0) = false := by
            rw [beq_eq_false_iff_ne]
            intro h
            exact he (I_inj.1 (h.trans HA.out.symm))
          clear he
          go_wp2_with fail
          go_roundw
          case rel => exact ⟨j + 1, hlt, by go_num, HE, HB⟩
          case measure => simp [intOf]; omega
      · obtain rfl : j = 255 := by omega
        have HE := Aside0.mk (logR_end HL.out)
        go_wp2_with fail
        go_ret2
        exact ⟨by obtain ⟨e1, e2⟩ := HE.out; subst e1; subst e2; rfl, HB.out⟩
  · rw [if_neg hc] at h
    exact absurd h (by simp)

end Go.Proofs.Ytaagfllcfkjkgaa.PG
