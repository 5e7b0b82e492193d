-- Written by a program of this session (a patched copy of the kit's print.py, over given contracts proved by hand). Lean checks it.
import Derived.Test.YtadcoeinnomjlaaPGx0
import Derived.Test.YtadcoeinnomjlaaPGx16
import Derived.Lib.Hide
import Derived.Test.YtadcoeinnomjlaaCp
namespace Go.Proofs.Ytadcoeinnomjlaa.PG
open Go.RowKit Go.Proofs.YtadcoeinnomjlaaW.PrintWords Go.Proofs.YtadcoeinnomjlaaW.PrintLast Go.Proofs.YtadcoeinnomjlaaW.PrintMore
attribute [local go_sem] max2_int min2_int max_two min_two max_three min_three max_four min_four   -- for this text's walks alone
set_option linter.unusedVariables false
set_option linter.unusedSimpArgs false

-- IMPORT Cp
/-! ### polynomial_Trim: function 40 -/
def polynomial_Trim.f (k : Nat) (l0 : List Int) : Option (List Int) := (polynomial_Degree.f k l0).bind fun t => if 0 ≤ wrap64 (t + 1) then (if (wrap64 (t + 1)).toNat ≤ 281474976710656 then some (l0.take (List.replicate (wrap64 (t + 1)).toNat (0 : Int)).length ++ (List.replicate (wrap64 (t + 1)).toNat 0).drop l0.length) else none) else none
theorem polynomial_Trim.mono : ∀ a0 k, LeO (polynomial_Trim.f k a0) (polynomial_Trim.f (k + 1) a0) := by
  intro a0 k
  unfold polynomial_Trim.f
  exact LeO.bind (polynomial_Degree.mono a0 k) (fun _ => LeO.refl _)
set_option maxHeartbeats 8000000 in
set_option maxRecDepth 100000 in
theorem polynomial_Trim.calls (k : Nat) (A0 : Option Addr) (c0 : Nat) (l0 : List Int) (r : List Int) (w : World) (hr0 : Kd.C (Kd.int .u8) w A0 l0.length l0) (hc0 : l0.length ≤ c0) (h : polynomial_Trim.f k l0 = some r) :
    Calls Try.prog 40 #[.slice A0 l0.length c0] w fun e w' => ∃ v0_ : Value, e = .returned (v0_) ∧ Kd.R (Kd.int .u8) 5 w' w.heap.size (fun _ => True) v0_ r ∧ Below w.heap.size w w' := by
  have HR0 := Aside0.mk hr0
  have HC0 := Aside0.mk hc0
  clear hr0 hc0
  unfold polynomial_Trim.f at h
  obtain ⟨t, A10, H⟩ := Option.bind_eq_some_iff.mp h
  have A1 := Aside0.mk A10
  clear A10 h
  obtain ⟨ji, hji⟩ : ∃ ji, wrap64 (t + 1) = ji := ⟨_, rfl⟩
  have hjiw : IntKind.i64.wrap (t + 1) = ji := (i64_w _).trans hji
  rw [hji] at H
  by_cases h0 : 0 ≤ ji
  · rw [if_pos h0] at H
    by_cases h1 : ji.toNat ≤ 281474976710656
    · rw [if_pos h1] at H
      have H0 := Aside0.mk h0
      have H1 := Aside0.mk h1
      have HE := Aside0.mk (Option.some.inj H)
      clear h0 h1 H
      go_enter Try.func40, Try.ntmps40
      go_wp2_with (first
        | (go_at_call 47; (with_reducible refine (polynomial_Degree.calls k _ _ l0 t _ HR0.out HC0.out A1.out).mono ?_); rintro e w' ⟨rfl, ⟨nd, rfl⟩⟩)
        | ((with_reducible refine gate_dst (N := 7) rfl ?_); refine Kd.R_make (Kd.int .u8) (w0 := w) w.heap.size 5 rfl (N := 7) rfl 23 _ _ rfl ji rfl rfl Try.underlying23 (.int .u8 0) 1 info5 rfl (by decide) (by omega) 0 (ok := fun _ => True) (okp := fun _ => True) rfl (fun _ hk => hk) trivial H0.out (by have := H1.out; omega) (pw_below_drewN (Below.refl _ _) _) (by simp) ?_; intro v w1 ho hb hg hn; have HO := Aside0.mk ho; have HB := Aside0.mk hb; clear ho hb hg hn)
        | ((with_reducible refine gate_builtin (b := .copy) (xs := #[.tmp 8, .tmp 9]) rfl ?_); refine copy_bytes rfl (.tmp 8) (.tmp 9) 23 5 rfl Try.underlying23 (by kernel_rfl) v (List.replicate ji.toNat 0) l0 A0 l0.length c0 rfl rfl HO.out (Kd.C_below HR0.out HB.out) HB.out ?_; intro n w2 ho hb; have HO2 := Aside0.mk ho; have HB2 := Aside0.mk hb; clear ho hb))
      go_ret
      exact ⟨_, rfl, by rw [← HE.out]; exact HO2.out, HB2.out⟩
    · rw [if_neg h1] at H
      exact absurd H (by simp)
  · rw [if_neg h0] at H
    exact absurd H (by simp)

-- IMPORT Cp
-- LIB Derived.Lib.Hide
/-! ### polynomial_Add: function 29 -/
def xorInto (m : List Int) : Nat → List Int → List Int
  | 0, xs => xs
  | j + 1, xs => (xorInto m j xs).set j (Go.bits .xor .u8 (rd (xorInto m j xs) j) (rd m j))
theorem xorInto_length (m : List Int) (j : Nat) (xs : List Int) : (xorInto m j xs).length = xs.length := by
  induction j with
  | zero => rfl
  | succ j ih => rw [xorInto, List.length_set, ih]
def polynomial_Add.f (k : Nat) (l0 : List Int) (l1 : List Int) : Option (List Int) := if l0.length < l1.length then (if l1.length ≤ 281474976710656 then polynomial_Trim.f k (xorInto l0 l0.length l1) else none) else (if l0.length ≤ 281474976710656 then polynomial_Trim.f k (xorInto l1 l1.length l0) else none)
theorem polynomial_Add.mono : ∀ a0 a1 k, LeO (polynomial_Add.f k a0 a1) (polynomial_Add.f (k + 1) a0 a1) := by
  intro a0 a1 k
  unfold polynomial_Add.f
  exact LeO.ite (LeO.ite (polynomial_Trim.mono _ _) (LeO.refl _)) (LeO.ite (polynomial_Trim.mono _ _) (LeO.refl _))
theorem Add_plain (a0 a1 : Int) (w : World) : Calls Try.prog 27 #[.int .u8 a0, .int .u8 a1] w fun e w' => e = .returned (.int .u8 (Go.bits .xor .u8 a0 a1)) ∧ w = w' := by
  go_enter Try.func27, Try.ntmps27
  go_wp2
  go_ret
  exact ⟨rfl, rfl⟩
set_option maxHeartbeats 8000000 in
set_option maxRecDepth 100000 in
theorem polynomial_Add.calls (k : Nat) (A0 : Option Addr) (c0 : Nat) (l0 : List Int) (A1 : Option Addr) (c1 : Nat) (l1 : List Int) (r : List Int) (w : World) (hr0 : Kd.C (Kd.int .u8) w A0 l0.length l0) (hc0 : l0.length ≤ c0) (hr1 : Kd.C (Kd.int .u8) w A1 l1.length l1) (hc1 : l1.length ≤ c1) (h : polynomial_Add.f k l0 l1 = some r) :
    Calls Try.prog 29 #[.slice A0 l0.length c0, .slice A1 l1.length c1] w fun e w' => ∃ v0_ : Value, e = .returned (v0_) ∧ Kd.R (Kd.int .u8) 5 w' w.heap.size (fun _ => True) v0_ r ∧ Below w.heap.size w w' := by
  have HR0 := Aside0.mk hr0
  have HC0 := Aside0.mk hc0
  clear hr0 hc0
  have HR1 := Aside0.mk hr1
  have HC1 := Aside0.mk hc1
  clear hr1 hc1
  unfold polynomial_Add.f at h
  by_cases hsw : l0.length < l1.length
  · rw [if_pos hsw] at h
    by_cases hbd : l1.length ≤ 281474976710656
    · rw [if_pos hbd] at h
      have H := h
      clear h
      have AT := Aside0.mk H
      clear H
      have hlen : l0.length ≤ l1.length := by omega
      have hpos : 0 ≤ (l1.length : Int) := by omega
      go_enter Try.func29, Try.ntmps29
      go_wp2_with (first
        | ((with_reducible refine gate_dst (N := 17) rfl ?_); refine Kd.R_make (Kd.int .u8) (w0 := w) w.heap.size 5 rfl (N := 17) rfl 23 _ _ rfl (l1.length : Int) rfl rfl Try.underlying23 (.int .u8 0) 1 info5 rfl (by decide) (by omega) 0 (ok := fun _ => True) (okp := fun _ => True) rfl (fun _ hk => hk) trivial (by omega) (by rw [Int.toNat_natCast]; omega) (Below.refl _ _) (Nat.le_refl _) ?_; intro v w1 ho hb hg hn; rw [Int.toNat_natCast] at ho; have HO := Aside0.mk ho; have HB := Aside0.mk hb; clear ho hb hg hn)
        | ((with_reducible refine gate_builtin (b := .copy) (xs := #[.tmp 18, .tmp 19]) rfl ?_); refine copy_bytes rfl (.tmp 18) (.tmp 19) 23 5 rfl Try.underlying23 (by kernel_rfl) v (List.replicate l1.length 0) l1 A1 l1.length c1 rfl rfl HO.out (Kd.C_below HR1.out HB.out) HB.out ?_; intro n w2 ho hb; clear HO HB; rw [List.length_replicate, List.take_length, List.drop_of_length_le (by simp), List.append_nil] at ho; have HO := Aside0.mk ho; have HB := Aside0.mk hb; clear ho hb))
      obtain ⟨Ao, co, eo⟩ := Kd.R_slice HO.out
      subst eo
      go_loopw [23] (fun i wr => ∃ j : Nat, j ≤ l0.length ∧ i = .int .i64 j ∧ Aside0 (Kd.R (Kd.int .u8) 5 wr w.heap.size (fun _ => True) (.slice Ao l1.length co) (xorInto l0 j l1)) ∧ Aside0 (Below w.heap.size w wr)) (fun i _ => l0.length - (intOf i).toNat)
      case atStart => exact ⟨0, Nat.zero_le _, rfl, HO, HB⟩
      case round =>
        clear HO HB
        obtain ⟨j, hj, rfl, HO, HB⟩ := hrel
        by_cases hlt : j < l0.length
        · obtain ⟨ad, e1, hx⟩ := Kd.at_int (Kd.C_below HR0.out HB.out) (j : Int) (by omega) (by omega)
          subst e1
          obtain ⟨g, cap, e2, hg1, hg2, _⟩ := Kd.R_form HO.out (by rw [xorInto_length]; omega)
          injection e2 with f1 f2 f3
          subst f1
          clear f2 f3
          obtain ⟨hy, hz⟩ := Kd.R_celln (enc := Value.int .u8) (h1 := fun _ => rfl) 0 HO.out (j : Int) (by omega) (by omega)
          have HP := Aside0.mk (Kd.R_putn (enc := Value.int .u8) (h1 := fun _ => rfl) HO.out (j : Int) (Go.bits .xor .u8 (rd (xorInto l0 j l1) j) (rd l0 j)))
          rw [Int.toNat_natCast] at hx hy hz HP
          have HG := Aside0.mk hg1
          clear hg1 hg2
          change wr.cell? ⟨g, j, none⟩ = some (.int .u8 (rd (xorInto l0 j l1) j)) at hy
          go_wp2_with (go_at_call 27; refine (Add_plain _ _ _).mono ?_; rintro e w' ⟨rfl, rfl⟩)
          go_roundw
          case rel => exact ⟨j + 1, hlt, by go_num, ⟨HP.out⟩, ⟨HB.out.setCell HG.out _⟩⟩
          case measure => simp [intOf]; omega
        · obtain rfl : j = l0.length := by omega
          have TC := polynomial_Trim.calls k Ao co (xorInto l0 l0.length l1) r wr (Kd.R_reads' HO.out).2.2 (by rw [xorInto_length]; exact (Kd.R_reads' HO.out).2.1) AT.out
          rw [xorInto_length] at TC
          have HT := Lib.hid TC
          clear TC
          go_wp2_with (go_at_call 40; (with_reducible refine HT.out.mono ?_); rintro e w2 ⟨v2, rfl, ho, hb⟩; have HO2 := Aside0.mk ho; have HB2 := Aside0.mk hb; clear ho hb)
          go_ret
          exact ⟨_, rfl, Kd.R_lower HO2.out HB.out.size, below_then HB.out HB.out.size HB2.out⟩
    · rw [if_neg hbd] at h
      exact absurd h (by simp)
  · rw [if_neg hsw] at h
    by_cases hbd : l0.length ≤ 281474976710656
    · rw [if_pos hbd] at h
      have H := h
      clear h
      have AT := Aside0.mk H
      clear H
      have hlen : l1.length ≤ l0.length := by omega
      have hpos : 0 ≤ (l0.length : Int) := by omega
      go_enter Try.func29, Try.ntmps29
      go_wp2_with (first
        | ((with_reducible refine gate_dst (N := 17) rfl ?_); refine Kd.R_make (Kd.int .u8) (w0 := w) w.heap.size 5 rfl (N := 17) rfl 23 _ _ rfl (l0.length : Int) rfl rfl Try.underlying23 (.int .u8 0) 1 info5 rfl (by decide) (by omega) 0 (ok := fun _ => True) (okp := fun _ => True) rfl (fun _ hk => hk) trivial (by omega) (by rw [Int.toNat_natCast]; omega) (Below.refl _ _) (Nat.le_refl _) ?_; intro v w1 ho hb hg hn; rw [Int.toNat_natCast] at ho; have HO := Aside0.mk ho; have HB := Aside0.mk hb; clear ho hb hg hn)
        | ((with_reducible refine gate_builtin (b := .copy) (xs := #[.tmp 18, .tmp 19]) rfl ?_); refine copy_bytes rfl (.tmp 18) (.tmp 19) 23 5 rfl Try.underlying23 (by kernel_rfl) v (List.replicate l0.length 0) l0 A0 l0.length c0 rfl rfl HO.out (Kd.C_below HR0.out HB.out) HB.out ?_; intro n w2 ho hb; clear HO HB; rw [List.length_replicate, List.take_length, List.drop_of_length_le (by simp), List.append_nil] at ho; have HO := Aside0.mk ho; have HB := Aside0.mk hb; clear ho hb))
      obtain ⟨Ao, co, eo⟩ := Kd.R_slice HO.out
      subst eo
      go_loopw [23] (fun i wr => ∃ j : Nat, j ≤ l1.length ∧ i = .int .i64 j ∧ Aside0 (Kd.R (Kd.int .u8) 5 wr w.heap.size (fun _ => True) (.slice Ao l0.length co) (xorInto l1 j l0)) ∧ Aside0 (Below w.heap.size w wr)) (fun i _ => l1.length - (intOf i).toNat)
      case atStart => exact ⟨0, Nat.zero_le _, rfl, HO, HB⟩
      case round =>
        clear HO HB
        obtain ⟨j, hj, rfl, HO, HB⟩ := hrel
        by_cases hlt : j < l1.length
        · obtain ⟨ad, e1, hx⟩ := Kd.at_int (Kd.C_below HR1.out HB.out) (j : Int) (by omega) (by omega)
          subst e1
          obtain ⟨g, cap, e2, hg1, hg2, _⟩ := Kd.R_form HO.out (by rw [xorInto_length]; omega)
          injection e2 with f1 f2 f3
          subst f1
          clear f2 f3
          obtain ⟨hy, hz⟩ := Kd.R_celln (enc := Value.int .u8) (h1 := fun _ => rfl) 0 HO.out (j : Int) (by omega) (by omega)
          have HP := Aside0.mk (Kd.R_putn (enc := Value.int .u8) (h1 := fun _ => rfl) HO.out (j : Int) (Go.bits .xor .u8 (rd (xorInto l1 j l0) j) (rd l1 j)))
          rw [Int.toNat_natCast] at hx hy hz HP
          have HG := Aside0.mk hg1
          clear hg1 hg2
          change wr.cell? ⟨g, j, none⟩ = some (.int .u8 (rd (xorInto l1 j l0) j)) at hy
          go_wp2_with (go_at_call 27; refine (Add_plain _ _ _).mono ?_; rintro e w' ⟨rfl, rfl⟩)
          go_roundw
          case rel => exact ⟨j + 1, hlt, by go_num, ⟨HP.out⟩, ⟨HB.out.setCell HG.out _⟩⟩
          case measure => simp [intOf]; omega
        · obtain rfl : j = l1.length := by omega
          have TC := polynomial_Trim.calls k Ao co (xorInto l1 l1.length l0) r wr (Kd.R_reads' HO.out).2.2 (by rw [xorInto_length]; exact (Kd.R_reads' HO.out).2.1) AT.out
          rw [xorInto_length] at TC
          have HT := Lib.hid TC
          clear TC
          go_wp2_with (go_at_call 40; (with_reducible refine HT.out.mono ?_); rintro e w2 ⟨v2, rfl, ho, hb⟩; have HO2 := Aside0.mk ho; have HB2 := Aside0.mk hb; clear ho hb)
          go_ret
          exact ⟨_, rfl, Kd.R_lower HO2.out HB.out.size, below_then HB.out HB.out.size HB2.out⟩
    · rw [if_neg hbd] at h
      exact absurd h (by simp)

end Go.Proofs.Ytadcoeinnomjlaa.PG
