-- Written by a program of this session (a patched copy of the kit's print.py, over given contracts proved by hand). Lean checks it.
import Derived.Test.YtadcoeinnomjlaaPGx0
import Derived.Test.YtadcoeinnomjlaaPGx1
import Derived.Lib.Hide
import Derived.Test.YtadcoeinnomjlaaFl
import Derived.Test.YtadcoeinnomjlaaSg
namespace Go.Proofs.Ytadcoeinnomjlaa.PG
open Go.RowKit Go.Proofs.YtadcoeinnomjlaaW.PrintWords Go.Proofs.YtadcoeinnomjlaaW.PrintLast Go.Proofs.YtadcoeinnomjlaaW.PrintMore
attribute [local go_sem] max2_int min2_int max_two min_two max_three min_three max_four min_four   -- for this text's walks alone
set_option linter.unusedVariables false
set_option linter.unusedSimpArgs false

-- IMPORT Sg Fl
-- LIB Derived.Lib.Hide
/-! ### gf256_Scale: function 30 -/
def tabV (c : Gf.F) (j : Nat) : Value := .int .u8 (I (Gf.mul (BitVec.ofNat 8 j) c))
set_option maxHeartbeats 8000000 in
set_option maxRecDepth 100000 in
theorem gf256_by.calls (c : Gf.F) (w : World) : Calls Try.prog 41 #[.int .u8 (I c)] w fun e w' => e = .returned (.func (.func 48) #[] #[.pointer (some ⟨w.heap.size, 0, none⟩)]) ∧ Aside0 (w'.heap[w.heap.size]? = some (.cells (fillT (tabV c) 256 (zArr (.int .u8 0) 256)) 82 (0, 0))) ∧ Aside0 (Below w.heap.size w w') := by
  have HZV := Aside0.mk (show ∀ w : World, (zeroValue 82).run Try.prog w = .ok (.agg (zArr (.int .u8 0) 256)) w from fun _ => by kernel_rfl)
  go_enter Try.func41, Try.ntmps41
  go_wp2_with ((with_reducible refine alloc_arr rfl 82 rfl (zArr (.int .u8 0) 256) HZV.out ?_))
  go_loopw [5] (fun i wr => ∃ j : Nat, j ≤ 256 ∧ i = .int .i64 j ∧ Aside0 (wr.heap[w.heap.size]? = some (.cells (fillT (tabV c) j (zArr (.int .u8 0) 256)) 82 (0, 0))) ∧ Aside0 (Below w.heap.size w wr)) (fun i _ => 256 - (intOf i).toNat)
  case atStart => exact ⟨0, Nat.zero_le _, rfl, ⟨blk_new _ _⟩, ⟨(Below.refl _ _).alloc (Nat.le_refl _) _⟩⟩
  case round =>
    obtain ⟨j, hj, rfl, HT, HB⟩ := hrel
    by_cases hlt : j < 256
    · obtain ⟨k, hk⟩ := (Mul_ev (BitVec.ofNat 8 j) c).rounds
      rw [I_ofNat hlt] at hk
      have HK := Aside0.mk hk
      clear hk
      obtain ⟨u, hu⟩ : ∃ u, (fillT (tabV c) j (zArr (.int .u8 0) 256))[j]? = some u := ⟨_, Array.getElem?_eq_getElem (by rw [fillT_size, zArr_size]; exact hlt)⟩
      have hc := (blk_cell HT.out j).trans hu
      have hf := blk_frozen HT.out j
      clear hu
      have hmod : (j : Int) % 256 = (j : Int) := by omega
      go_wp2_with (go_at_call 39; refine (gf256_Mul.calls k _ _ _ _ HK.out).mono ?_; rintro e w' ⟨rfl, ⟨nd, rfl⟩⟩)
      go_roundw
      case rel => exact ⟨j + 1, hlt, by go_num, ⟨blk_set (blk_drewN HT.out nd) j _⟩, ⟨(pw_below_drewN HB.out nd).setCell (Nat.le_refl _) _⟩⟩
      case measure => simp [intOf]; omega
    · obtain rfl : j = 256 := by omega
      go_wp2_with fail
      go_ret
      exact ⟨rfl, HT, HB⟩
theorem by1.calls (c : Gf.F) (n : Nat) (hn : n < 256) (g : Nat) (w : World) (HT : Aside0 (w.heap[g]? = some (.cells (fillT (tabV c) 256 (zArr (.int .u8 0) 256)) 82 (0, 0)))) : Calls Try.prog 48 #[.int .u8 (n : Int), .pointer (some ⟨g, 0, none⟩)] w fun e w' => e = .returned (.int .u8 (I (Gf.mul (BitVec.ofNat 8 n) c))) ∧ w = w' := by
  have hc : w.cell? ⟨g, n, none⟩ = some (.int .u8 (I (Gf.mul (BitVec.ofNat 8 n) c))) := (blk_cell HT.out n).trans (fillT_at _ _ _ (by rw [zArr_size]; decide) _ hn)
  go_enter Try.func48, Try.ntmps48
  go_wp2_with fail
  go_ret
  exact ⟨rfl, rfl⟩
def sclI (l : List Int) (a : Int) (j : Nat) : Int := I (Gf.mul (BitVec.ofNat 8 (rd l j).toNat) (Fi a))
theorem sclI_all (l : List Int) (a : Int) : fillL (sclI l a) l.length (List.replicate l.length 0) = l.map fun x => I (Gf.mul (BitVec.ofNat 8 x.toNat) (Fi a)) := by
  apply List.ext_getElem?
  intro i
  rcases Nat.lt_or_ge i l.length with h | h
  · rw [fillL_at _ _ _ (by simp) _ h, List.getElem?_map, List.getElem?_eq_getElem h]
    simp [sclI, rd, h]
  · rw [List.getElem?_eq_none (by rw [fillL_length]; simpa using h), List.getElem?_eq_none (by simpa using h)]
def gf256_Scale.f (l0 : List Int) (a1 : Int) : Option (List Int) := if (0 ≤ a1 ∧ a1 < 256) ∧ (∀ x ∈ l0, 0 ≤ x ∧ x < 256) ∧ l0.length ≤ 281474976710656 then some (l0.map fun x => I (Gf.mul (BitVec.ofNat 8 x.toNat) (Fi a1))) else none
set_option maxHeartbeats 8000000 in
set_option maxRecDepth 100000 in
theorem gf256_Scale.calls (A0 : Option Addr) (c0 : Nat) (l0 : List Int) (a1 : Int) (r : List Int) (w : World) (hr0 : Kd.C (Kd.int .u8) w A0 l0.length l0) (hc0 : l0.length ≤ c0) (h : gf256_Scale.f l0 a1 = some r) :
    Calls Try.prog 30 #[.slice A0 l0.length c0, .int .u8 a1] w fun e w' => ∃ v0_ : Value, e = .returned (v0_) ∧ Kd.R (Kd.int .u8) 5 w' w.heap.size (fun _ => True) v0_ r ∧ Below w.heap.size w w' := by
  have HR0 := Aside0.mk hr0
  clear hr0
  unfold gf256_Scale.f at h
  by_cases hcond : (0 ≤ a1 ∧ a1 < 256) ∧ (∀ x ∈ l0, 0 ≤ x ∧ x < 256) ∧ l0.length ≤ 281474976710656
  · rw [if_pos hcond] at h
    have HE := Aside0.mk (Option.some.inj h)
    clear h
    obtain ⟨⟨ha0, ha1⟩, hall, hlen⟩ := hcond
    have HAll := Aside0.mk hall
    have HA := Aside0.mk (I_Fi ha0 ha1)
    clear hall ha0 ha1
    have BC := gf256_by.calls (Fi a1) w
    rw [HA.out] at BC
    have HBC := Lib.hid BC
    clear BC
    go_enter Try.func30, Try.ntmps30
    go_wp2_with (first
      | (go_at_call 41; refine HBC.out.mono ?_; rintro e w1 ⟨rfl, HT, HB⟩)
      | ((with_reducible refine gate_dst (N := 13) rfl ?_); refine Kd.R_make (Kd.int .u8) (w0 := w) w.heap.size 5 rfl (N := 13) rfl 23 _ _ rfl (l0.length : Int) rfl rfl Try.underlying23 (.int .u8 0) 1 info5 rfl (by decide) (by omega) 0 (ok := fun _ => True) (okp := fun _ => True) rfl (fun _ hk => hk) trivial (by omega) (by rw [Int.toNat_natCast]; omega) HB.out HB.out.size ?_; intro v w2 ho hb hg hn; rw [Int.toNat_natCast] at ho; have HT2 := Aside0.mk (blk_grown HT.out hg (by simp)); clear HT HB; have HO := Aside0.mk ho; have HB := Aside0.mk hb; have HT := HT2; clear ho hb hg hn HT2))
    obtain ⟨Ao, co, eo⟩ := Kd.R_slice HO.out
    rw [List.length_replicate] at eo
    subst eo
    go_loopw [16] (fun i wr => ∃ j : Nat, j ≤ l0.length ∧ i = .int .i64 j ∧ Aside0 (Kd.R (Kd.int .u8) 5 wr w.heap.size (fun _ => True) (.slice Ao l0.length co) (fillL (sclI l0 a1) j (List.replicate l0.length 0))) ∧ Aside0 (wr.heap[w.heap.size]? = some (.cells (fillT (tabV (Fi a1)) 256 (zArr (.int .u8 0) 256)) 82 (0, 0))) ∧ Aside0 (Below w.heap.size w wr)) (fun i _ => l0.length - (intOf i).toNat)
    case atStart => exact ⟨0, Nat.zero_le _, rfl, HO, HT, HB⟩
    case round =>
      clear HO HB HT
      obtain ⟨j, hj, rfl, HO, HT, HB⟩ := hrel
      by_cases hlt : j < l0.length
      · obtain ⟨ad, e1, hx⟩ := Kd.at_int (Kd.C_below HR0.out HB.out) (j : Int) (by omega) (by omega)
        subst e1
        obtain ⟨g, cap, e2, hg1, hg2, cells, hcl⟩ := Kd.R_form HO.out (by rw [fillL_length, List.length_replicate]; omega)
        injection e2 with f1 f2 f3
        subst f1
        clear f2 f3
        obtain ⟨hy, hz⟩ := Kd.R_celln (enc := Value.int .u8) (h1 := fun _ => rfl) 0 HO.out (j : Int) (by omega) (by omega)
        have HP := Aside0.mk (Kd.R_putn (enc := Value.int .u8) (h1 := fun _ => rfl) HO.out (j : Int) (sclI l0 a1 j))
        rw [Int.toNat_natCast] at hx hy hz HP
        have HN := Aside0.mk (blk_ne HT.out hcl (by decide))
        have HG := Aside0.mk hg1
        clear hg1 hg2 hcl
        have hmem : rd l0 (j : Int) ∈ l0 := by
          simp only [rd, Int.toNat_natCast, List.getD_eq_getElem?_getD, List.getElem?_eq_getElem hlt, Option.getD_some]
          exact List.getElem_mem hlt
        have hb0 := HAll.out _ hmem
        clear hmem
        obtain ⟨n, hn⟩ : ∃ n : Nat, rd l0 (j : Int) = (n : Int) := ⟨(rd l0 (j : Int)).toNat, by omega⟩
        have hnlt : n < 256 := by omega
        clear hb0
        rw [hn] at hx
        have hsc : sclI l0 a1 j = I (Gf.mul (BitVec.ofNat 8 n) (Fi a1)) := by unfold sclI; rw [hn, Int.toNat_natCast]
        clear hn
        have HSc := Aside0.mk hsc
        clear hsc
        go_wp2_with (go_at_call 48; refine (by1.calls (Fi a1) n hnlt _ _ HT).mono ?_; rintro e w' ⟨rfl, rfl⟩)
        go_roundw
        case rel => exact ⟨j + 1, hlt, by go_num, by rw [← HSc.out]; exact ⟨HP.out⟩, ⟨blk_far HT.out HN.out _⟩, ⟨HB.out.setCell HG.out _⟩⟩
        case measure => simp [intOf]; omega
      · obtain rfl : j = l0.length := by omega
        go_wp2_with fail
        go_ret
        exact ⟨_, rfl, by rw [← HE.out, ← sclI_all]; exact HO.out, HB.out⟩
  · rw [if_neg hcond] at h
    exact absurd h (by simp)

end Go.Proofs.Ytadcoeinnomjlaa.PG
