-- Written by a program of this session (a patched copy of the kit's print.py, over given contracts proved by hand). Lean checks it.
import Derived.Test.YtaagfllcfkjkgaaPGx0
import Derived.Test.YtaagfllcfkjkgaaPGx1
import Derived.Test.YtaagfllcfkjkgaaPGx7
namespace Go.Proofs.Ytaagfllcfkjkgaa.PG
open Go.RowKit Go.Proofs.YtaagfllcfkjkgaaW.PrintWords Go.Proofs.YtaagfllcfkjkgaaW.PrintLast Go.Proofs.YtaagfllcfkjkgaaW.PrintMore
attribute [local go_sem] max2_int min2_int max_two min_two max_three min_three max_four min_four   -- for this text's walks alone
set_option linter.unusedVariables false
set_option linter.unusedSimpArgs false

/-! ### kinkeeplaw02_Gf256Field: function 6 -/
mutual
def kinkeeplaw02_Gf256Field.j0 : Nat → Int → Int → Int → Bool → Option (Bool)
  | 0, _, _, _, _ => none
  | k + 1, x0, x1, x2, x36 => if x36 = true then (some false) else ((gf256_Mul.f k x0 x1).bind fun t173 => ((gf256_Mul.f k x1 x0).bind fun t174 => (if t173 = t174 then ((gf256_Add.f x0 x1).bind fun t175 => ((gf256_Add.f x1 x0).bind fun t176 => (if t175 = t176 then ((gf256_Add.f x1 x2).bind fun t177 => ((gf256_Mul.f k x0 t177).bind fun t178 => ((gf256_Mul.f k x0 x1).bind fun t179 => ((gf256_Mul.f k x0 x2).bind fun t180 => ((gf256_Add.f t173 t180).bind fun t181 => (kinkeeplaw02_Gf256Field.j1 k x0 x1 (t178 != t181))))))) else (kinkeeplaw02_Gf256Field.j1 k x0 x1 true)))) else (kinkeeplaw02_Gf256Field.j1 k x0 x1 true))))
def kinkeeplaw02_Gf256Field.j1 : Nat → Int → Int → Bool → Option (Bool)
  | 0, _, _, _ => none
  | k + 1, x0, x1, x67 => if x67 = true then (some false) else ((gf256_Inv.f k x0).bind fun bt182 => ((gf256_Add.f x0 0).bind fun t184 => (if t184 = x0 then ((gf256_Mul.f k x0 1).bind fun t185 => (if t185 = x0 then ((gf256_Add.f x0 x0).bind fun t186 => (if t186 = 0 then (kinkeeplaw02_Gf256Field.j2 k x0 x1 bt182.1 ((bt182.2 == 0) != (x0 != 0))) else (kinkeeplaw02_Gf256Field.j2 k x0 x1 bt182.1 true))) else (kinkeeplaw02_Gf256Field.j2 k x0 x1 bt182.1 true))) else (kinkeeplaw02_Gf256Field.j2 k x0 x1 bt182.1 true))))
def kinkeeplaw02_Gf256Field.j2 : Nat → Int → Int → Int → Bool → Option (Bool)
  | 0, _, _, _, _ => none
  | k + 1, x0, x1, x7, x95 => if x95 = true then (some false) else ((gf256_Mul.f k x1 x0).bind fun t187 => ((gf256_Div.f k t187 x0).bind fun bt188 => (if x0 = 0 then (some true) else ((gf256_Mul.f k x0 x7).bind fun t190 => (if t190 = 1 then (if bt188.2 = 0 then (some (bt188.1 == x1)) else (some false)) else (some false))))))
end
def kinkeeplaw02_Gf256Field.f (k : Nat) (a0 : Int) (a1 : Int) (a2 : Int) : Option (Bool) := (kinkeeplaw02_awake.f k).bind fun t164 => (if t164 = true then ((gf256_Mul.f k a1 a2).bind fun t165 => ((gf256_Mul.f k a0 t165).bind fun t166 => ((gf256_Mul.f k a0 a1).bind fun t167 => ((gf256_Mul.f k t167 a2).bind fun t168 => (if t166 = t168 then ((gf256_Add.f a1 a2).bind fun t169 => ((gf256_Add.f a0 t169).bind fun t170 => ((gf256_Add.f a0 a1).bind fun t171 => ((gf256_Add.f t171 a2).bind fun t172 => (kinkeeplaw02_Gf256Field.j0 k a0 a1 a2 (t170 != t172)))))) else (kinkeeplaw02_Gf256Field.j0 k a0 a1 a2 true)))))) else (some false))
theorem kinkeeplaw02_Gf256Field.mono_l : ∀ k, (∀ y0 y1 y2 y3, LeO (kinkeeplaw02_Gf256Field.j0 k y0 y1 y2 y3) (kinkeeplaw02_Gf256Field.j0 (k + 1) y0 y1 y2 y3)) ∧ (∀ y0 y1 y2, LeO (kinkeeplaw02_Gf256Field.j1 k y0 y1 y2) (kinkeeplaw02_Gf256Field.j1 (k + 1) y0 y1 y2)) ∧ (∀ y0 y1 y2 y3, LeO (kinkeeplaw02_Gf256Field.j2 k y0 y1 y2 y3) (kinkeeplaw02_Gf256Field.j2 (k + 1) y0 y1 y2 y3))
  | 0 => ⟨fun _ _ _ _ r h => by simp [kinkeeplaw02_Gf256Field.j0] at h, fun _ _ _ r h => by simp [kinkeeplaw02_Gf256Field.j1] at h, fun _ _ _ _ r h => by simp [kinkeeplaw02_Gf256Field.j2] at h⟩
  | k + 1 => by
    obtain ⟨ih0, ih1, ih2⟩ := kinkeeplaw02_Gf256Field.mono_l k
    refine ⟨?_, ?_, ?_⟩
    · intro y0 y1 y2 y3
      unfold kinkeeplaw02_Gf256Field.j0
      repeat' first
      | (with_reducible exact ih0 _ _ _ _)
      | (with_reducible exact ih1 _ _ _)
      | (with_reducible exact ih2 _ _ _ _)
      | (with_reducible exact gf256_Div.mono _ _ _)
      | (with_reducible exact gf256_Inv.mono _ _)
      | (with_reducible exact gf256_Mul.mono _ _ _)
      | (with_reducible exact kinkeeplaw02_awake.mono _)
      | (with_reducible exact LeO.refl _)
      | (with_reducible exact LeO.none _)
      | (with_reducible refine LeO.ite ?_ ?_)
      | (with_reducible refine LeO.bind ?_ (fun _ => ?_))
      | exact ih0 _ _ _ _
      | exact ih1 _ _ _
      | exact ih2 _ _ _ _
      | exact gf256_Div.mono _ _ _
      | exact gf256_Inv.mono _ _
      | exact gf256_Mul.mono _ _ _
      | exact kinkeeplaw02_awake.mono _
      | exact LeO.none _
      | refine LeO.ite ?_ ?_
      | refine LeO.bind ?_ (fun _ => ?_)
    · intro y0 y1 y2
      unfold kinkeeplaw02_Gf256Field.j1
      repeat' first
      | (with_reducible exact ih0 _ _ _ _)
      | (with_reducible exact ih1 _ _ _)
      | (with_reducible exact ih2 _ _ _ _)
      | (with_reducible exact gf256_Div.mono _ _ _)
      | (with_reducible exact gf256_Inv.mono _ _)
      | (with_reducible exact gf256_Mul.mono _ _ _)
      | (with_reducible exact kinkeeplaw02_awake.mono _)
      | (with_reducible exact LeO.refl _)
      | (with_reducible exact LeO.none _)
      | (with_reducible refine LeO.ite ?_ ?_)
      | (with_reducible refine LeO.bind ?_ (fun _ => ?_))
      | exact ih0 _ _ _ _
      | exact ih1 _ _ _
      | exact ih2 _ _ _ _
      | exact gf256_Div.mono _ _ _
      | exact gf256_Inv.mono _ _
      | exact gf256_Mul.mono _ _ _
      | exact kinkeeplaw02_awake.mono _
      | exact LeO.none _
      | refine LeO.ite ?_ ?_
      | refine LeO.bind ?_ (fun _ => ?_)
    · intro y0 y1 y2 y3
      unfold kinkeeplaw02_Gf256Field.j2
      repeat' first
      | (with_reducible exact ih0 _ _ _ _)
      | (with_reducible exact ih1 _ _ _)
      | (with_reducible exact ih2 _ _ _ _)
      | (with_reducible exact gf256_Div.mono _ _ _)
      | (with_reducible exact gf256_Inv.mono _ _)
      | (with_reducible exact gf256_Mul.mono _ _ _)
      | (with_reducible exact kinkeeplaw02_awake.mono _)
      | (with_reducible exact LeO.refl _)
      | (with_reducible exact LeO.none _)
      | (with_reducible refine LeO.ite ?_ ?_)
      | (with_reducible refine LeO.bind ?_ (fun _ => ?_))
      | exact ih0 _ _ _ _
      | exact ih1 _ _ _
      | exact ih2 _ _ _ _
      | exact gf256_Div.mono _ _ _
      | exact gf256_Inv.mono _ _
      | exact gf256_Mul.mono _ _ _
      | exact kinkeeplaw02_awake.mono _
      | exact LeO.none _
      | refine LeO.ite ?_ ?_
      | refine LeO.bind ?_ (fun _ => ?_)
theorem kinkeeplaw02_Gf256Field.mono : ∀ a0 a1 a2 k, LeO (kinkeeplaw02_Gf256Field.f k a0 a1 a2) (kinkeeplaw02_Gf256Field.f (k + 1) a0 a1 a2) := by
  intro a0 a1 a2 k
  obtain ⟨ih0, ih1, ih2⟩ := kinkeeplaw02_Gf256Field.mono_l k
  unfold kinkeeplaw02_Gf256Field.f
  repeat' first
      | (with_reducible exact ih0 _ _ _ _)
      | (with_reducible exact ih1 _ _ _)
      | (with_reducible exact ih2 _ _ _ _)
      | (with_reducible exact gf256_Div.mono _ _ _)
      | (with_reducible exact gf256_Inv.mono _ _)
      | (with_reducible exact gf256_Mul.mono _ _ _)
      | (with_reducible exact kinkeeplaw02_awake.mono _)
      | (with_reducible exact LeO.refl _)
      | (with_reducible exact LeO.none _)
      | (with_reducible refine LeO.ite ?_ ?_)
      | (with_reducible refine LeO.bind ?_ (fun _ => ?_))
      | exact ih0 _ _ _ _
      | exact ih1 _ _ _
      | exact ih2 _ _ _ _
      | exact gf256_Div.mono _ _ _
      | exact gf256_Inv.mono _ _
      | exact gf256_Mul.mono _ _ _
      | exact kinkeeplaw02_awake.mono _
      | exact LeO.none _
      | refine LeO.ite ?_ ?_
      | refine LeO.bind ?_ (fun _ => ?_)
set_option maxHeartbeats 8000000 in
set_option maxRecDepth 100000 in
theorem kinkeeplaw02_Gf256Field.calls (k : Nat) (a0 : Int) (a1 : Int) (a2 : Int) (r : Bool) (w : World) (h : kinkeeplaw02_Gf256Field.f k a0 a1 a2 = some r) :
    Calls Try.prog 6 #[.int .u8 a0, .int .u8 a1, .int .u8 a2] w fun e w' => e = .returned (.bool r) ∧ Below w.heap.size w w' := by
  have HB := Aside0.mk (Below.refl w.heap.size w)
  have H : ((kinkeeplaw02_awake.f k).bind fun t164 => (if t164 = true then ((gf256_Mul.f k a1 a2).bind fun t165 => ((gf256_Mul.f k a0 t165).bind fun t166 => ((gf256_Mul.f k a0 a1).bind fun t167 => ((gf256_Mul.f k t167 a2).bind fun t168 => (if t166 = t168 then ((gf256_Add.f a1 a2).bind fun t169 => ((gf256_Add.f a0 t169).bind fun t170 => ((gf256_Add.f a0 a1).bind fun t171 => ((gf256_Add.f t171 a2).bind fun t172 => (kinkeeplaw02_Gf256Field.j0 k a0 a1 a2 (t170 != t172)))))) else (kinkeeplaw02_Gf256Field.j0 k a0 a1 a2 true)))))) else (some false))) = some r := h
  clear h
  replace H := Option.bind_eq_some_iff.mp H
  obtain ⟨t164, A40, H⟩ := H
  replace H : (if t164 = true then ((gf256_Mul.f k a1 a2).bind fun t165 => ((gf256_Mul.f k a0 t165).bind fun t166 => ((gf256_Mul.f k a0 a1).bind fun t167 => ((gf256_Mul.f k t167 a2).bind fun t168 => (if t166 = t168 then ((gf256_Add.f a1 a2).bind fun t169 => ((gf256_Add.f a0 t169).bind fun t170 => ((gf256_Add.f a0 a1).bind fun t171 => ((gf256_Add.f t171 a2).bind fun t172 => (kinkeeplaw02_Gf256Field.j0 k a0 a1 a2 (t170 != t172)))))) else (kinkeeplaw02_Gf256Field.j0 k a0 a1 a2 true)))))) else (some false)) = some r := H
  have A4 := Aside0.mk A40
  clear A40
  by_cases c5 : t164 = true
  · subst c5
    have H1 : ((gf256_Mul.f k a1 a2).bind fun t165 => ((gf256_Mul.f k a0 t165).bind fun t166 => ((gf256_Mul.f k a0 a1).bind fun t167 => ((gf256_Mul.f k t167 a2).bind fun t168 => (if t166 = t168 then ((gf256_Add.f a1 a2).bind fun t169 => ((gf256_Add.f a0 t169).bind fun t170 => ((gf256_Add.f a0 a1).bind fun t171 => ((gf256_Add.f t171 a2).bind fun t172 => (kinkeeplaw02_Gf256Field.j0 k a0 a1 a2 (t170 != t172)))))) else (kinkeeplaw02_Gf256Field.j0 k a0 a1 a2 true)))))) = some r := by rw [if_pos rfl] at H; exact H
    clear H
    have H := H1
    clear H1
    have HC6 := Aside0.mk H
    clear H
    go_enter Try.func6, Try.ntmps6
    go_upto_region 3 with (first | ((with_reducible refine gate_callee (f := 11) rfl ?_); refine goesL_ (some 11) rfl rfl Try.func11 (by kernel_rfl) rfl #[] rfl (by (try simp only [List.map_toArray, List.map_cons, List.map_nil]); first | done | rfl | (simp only [List.length_drop, List.length_take]; rfl)) ?_; (with_reducible refine (kinkeeplaw02_awake.calls k  true _ A4.out).mono ?_); rintro e w7 ⟨rfl, hb⟩; refine ⟨_, rfl, ?_⟩; have n0_ := Aside0.mk (below_step (by repeat (first | (with_reducible first | exact HB.out | apply below_alloc | apply pw_below_drewN | apply below_drew1) | exact HB.out)) hb); clear HB; have HB := n0_; clear n0_; (try clear hb); (try clear hb2); (try clear hk); (try clear hi)))
    (try simp only [Act.put, List.setIfInBounds_toArray, List.set_cons_zero, List.set_cons_succ])
    go_cut [36] (fun v36 wc => ∃ (kq : Nat) (x36_5 : Bool), v36 = .bool x36_5 ∧ Aside0 (kinkeeplaw02_Gf256Field.j0 kq a0 a1 a2 x36_5 = some r) ∧ Aside0 (kq ≤ k) ∧ Aside0 (Below w.heap.size w wc))
    case first =>
      have H := HC6.out
      clear HC6
      replace H := Option.bind_eq_some_iff.mp H
      obtain ⟨t165, A80, H⟩ := H
      replace H : ((gf256_Mul.f k a0 t165).bind fun t166 => ((gf256_Mul.f k a0 a1).bind fun t167 => ((gf256_Mul.f k t167 a2).bind fun t168 => (if t166 = t168 then ((gf256_Add.f a1 a2).bind fun t169 => ((gf256_Add.f a0 t169).bind fun t170 => ((gf256_Add.f a0 a1).bind fun t171 => ((gf256_Add.f t171 a2).bind fun t172 => (kinkeeplaw02_Gf256Field.j0 k a0 a1 a2 (t170 != t172)))))) else (kinkeeplaw02_Gf256Field.j0 k a0 a1 a2 true))))) = some r := H
      have A8 := Aside0.mk A80
      clear A80
      replace H := Option.bind_eq_some_iff.mp H
      obtain ⟨t166, A90, H⟩ := H
      replace H : ((gf256_Mul.f k a0 a1).bind fun t167 => ((gf256_Mul.f k t167 a2).bind fun t168 => (if t166 = t168 then ((gf256_Add.f a1 a2).bind fun t169 => ((gf256_Add.f a0 t169).bind fun t170 => ((gf256_Add.f a0 a1).bind fun t171 => ((gf256_Add.f t171 a2).bind fun t172 => (kinkeeplaw02_Gf256Field.j0 k a0 a1 a2 (t170 != t172)))))) else (kinkeeplaw02_Gf256Field.j0 k a0 a1 a2 true)))) = some r := H
      have A9 := Aside0.mk A90
      clear A90
      replace H := Option.bind_eq_some_iff.mp H
      obtain ⟨t167, A100, H⟩ := H
      replace H : ((gf256_Mul.f k t167 a2).bind fun t168 => (if t166 = t168 then ((gf256_Add.f a1 a2).bind fun t169 => ((gf256_Add.f a0 t169).bind fun t170 => ((gf256_Add.f a0 a1).bind fun t171 => ((gf256_Add.f t171 a2).bind fun t172 => (kinkeeplaw02_Gf256Field.j0 k a0 a1 a2 (t170 != t172)))))) else (kinkeeplaw02_Gf256Field.j0 k a0 a1 a2 true))) = some r := H
      have A10 := Aside0.mk A100
      clear A100
      replace H := Option.bind_eq_some_iff.mp H
      obtain ⟨t168, A110, H⟩ := H
      replace H : (if t166 = t168 then ((gf256_Add.f a1 a2).bind fun t169 => ((gf256_Add.f a0 t169).bind fun t170 => ((gf256_Add.f a0 a1).bind fun t171 => ((gf256_Add.f t171 a2).bind fun t172 => (kinkeeplaw02_Gf256Field.j0 k a0 a1 a2 (t170 != t172)))))) else (kinkeeplaw02_Gf256Field.j0 k a0 a1 a2 true)) = some r := H
      have A11 := Aside0.mk A110
      clear A110
      by_cases c12 : t166 = t168
      · rw [if_pos c12] at H
        have c12b0 : (t166 == t168) = true := beq_iff_eq.mpr c12
        have c12b1 : (t166 != t168) = false := bne_eq_false_iff_eq.mpr c12
        clear c12
        (first | rw [c12b0] | (simp only [i64_w, i32_w]; rw [c12b0]) | skip)
        replace H := Option.bind_eq_some_iff.mp H
        obtain ⟨t169, A130, H⟩ := H
        replace H : ((gf256_Add.f a0 t169).bind fun t170 => ((gf256_Add.f a0 a1).bind fun t171 => ((gf256_Add.f t171 a2).bind fun t172 => (kinkeeplaw02_Gf256Field.j0 k a0 a1 a2 (t170 != t172))))) = some r := H
        have A13 := Aside0.mk A130
        clear A130
        replace H := Option.bind_eq_some_iff.mp H
        obtain ⟨t170, A140, H⟩ := H
        replace H : ((gf256_Add.f a0 a1).bind fun t171 => ((gf256_Add.f t171 a2).bind fun t172 => (kinkeeplaw02_Gf256Field.j0 k a0 a1 a2 (t170 != t172)))) = some r := H
        have A14 := Aside0.mk A140
        clear A140
        replace H := Option.bind_eq_some_iff.mp H
        obtain ⟨t171, A150, H⟩ := H
        replace H : ((gf256_Add.f t171 a2).bind fun t172 => (kinkeeplaw02_Gf256Field.j0 k a0 a1 a2 (t170 != t172))) = some r := H
        have A15 := Aside0.mk A150
        clear A150
        replace H := Option.bind_eq_some_iff.mp H
        obtain ⟨t172, A160, H⟩ := H
        replace H : (kinkeeplaw02_Gf256Field.j0 k a0 a1 a2 (t170 != t172)) = some r := H
        have A16 := Aside0.mk A160
        clear A160
        have H' := Aside0.mk H
        clear H
        go_wp2_with (first | ((with_reducible refine gate_callee (f := 12) rfl ?_); refine goesL_ (some 16) rfl rfl Try.func12 (by kernel_rfl) rfl #[.int .u8 a1, .int .u8 a2] rfl (by (try simp only [List.map_toArray, List.map_cons, List.map_nil]); first | done | rfl | (simp only [List.length_drop, List.length_take]; rfl)) ?_; (with_reducible refine (gf256_Mul.calls k a1 a2 t165 _ A8.out).mono ?_); rintro e w' ⟨rfl, ⟨nd, rfl⟩⟩; refine ⟨_, rfl, ?_⟩) | ((with_reducible refine gate_callee (f := 12) rfl ?_); refine goesL_ (some 17) rfl rfl Try.func12 (by kernel_rfl) rfl #[.int .u8 a0, .int .u8 t165] rfl (by (try simp only [List.map_toArray, List.map_cons, List.map_nil]); first | done | rfl | (simp only [List.length_drop, List.length_take]; rfl)) ?_; (with_reducible refine (gf256_Mul.calls k a0 t165 t166 _ A9.out).mono ?_); rintro e w' ⟨rfl, ⟨nd, rfl⟩⟩; refine ⟨_, rfl, ?_⟩) | ((with_reducible refine gate_callee (f := 12) rfl ?_); refine goesL_ (some 20) rfl rfl Try.func12 (by kernel_rfl) rfl #[.int .u8 a0, .int .u8 a1] rfl (by (try simp only [List.map_toArray, List.map_cons, List.map_nil]); first | done | rfl | (simp only [List.length_drop, List.length_take]; rfl)) ?_; (with_reducible refine (gf256_Mul.calls k a0 a1 t167 _ A10.out).mono ?_); rintro e w' ⟨rfl, ⟨nd, rfl⟩⟩; refine ⟨_, rfl, ?_⟩) | ((with_reducible refine gate_callee (f := 12) rfl ?_); refine goesL_ (some 22) rfl rfl Try.func12 (by kernel_rfl) rfl #[.int .u8 t167, .int .u8 a2] rfl (by (try simp only [List.map_toArray, List.map_cons, List.map_nil]); first | done | rfl | (simp only [List.length_drop, List.length_take]; rfl)) ?_; (with_reducible refine (gf256_Mul.calls k t167 a2 t168 _ A11.out).mono ?_); rintro e w' ⟨rfl, ⟨nd, rfl⟩⟩; refine ⟨_, rfl, ?_⟩) | (go_at_call 13; (with_reducible refine (gf256_Add.calls a1 a2 t169 _ A13.out).mono ?_); rintro e w' ⟨rfl, ⟨nd, rfl⟩⟩) | (go_at_call 13; (with_reducible refine (gf256_Add.calls a0 t169 t170 _ A14.out).mono ?_); rintro e w' ⟨rfl, ⟨nd, rfl⟩⟩) | (go_at_call 13; (with_reducible refine (gf256_Add.calls a0 a1 t171 _ A15.out).mono ?_); rintro e w' ⟨rfl, ⟨nd, rfl⟩⟩) | (go_at_call 13; (with_reducible refine (gf256_Add.calls t171 a2 t172 _ A16.out).mono ?_); rintro e w' ⟨rfl, ⟨nd, rfl⟩⟩))
        go_meet
        case rel => exact ⟨_, ((t170 != t172)), (by first | rfl | (simp; done) | (simp [*]; done)), H', ⟨by first | omega | exact Nat.le_refl _⟩, ⟨by repeat (first | (with_reducible first | exact HB.out | apply below_alloc | apply pw_below_drewN | apply below_drew1) | exact HB.out)⟩⟩
      · rw [if_neg c12] at H
        have c12b0 : (t166 == t168) = false := beq_eq_false_iff_ne.mpr c12
        have c12b1 : (t166 != t168) = true := bne_iff_ne.mpr c12
        (first | rw [c12b0] | (simp only [i64_w, i32_w]; rw [c12b0]) | skip)
        have H' := Aside0.mk H
        clear H
        go_wp2_with (first | ((with_reducible refine gate_callee (f := 12) rfl ?_); refine goesL_ (some 16) rfl rfl Try.func12 (by kernel_rfl) rfl #[.int .u8 a1, .int .u8 a2] rfl (by (try simp only [List.map_toArray, List.map_cons, List.map_nil]); first | done | rfl | (simp only [List.length_drop, List.length_take]; rfl)) ?_; (with_reducible refine (gf256_Mul.calls k a1 a2 t165 _ A8.out).mono ?_); rintro e w' ⟨rfl, ⟨nd, rfl⟩⟩; refine ⟨_, rfl, ?_⟩) | ((with_reducible refine gate_callee (f := 12) rfl ?_); refine goesL_ (some 17) rfl rfl Try.func12 (by kernel_rfl) rfl #[.int .u8 a0, .int .u8 t165] rfl (by (try simp only [List.map_toArray, List.map_cons, List.map_nil]); first | done | rfl | (simp only [List.length_drop, List.length_take]; rfl)) ?_; (with_reducible refine (gf256_Mul.calls k a0 t165 t166 _ A9.out).mono ?_); rintro e w' ⟨rfl, ⟨nd, rfl⟩⟩; refine ⟨_, rfl, ?_⟩) | ((with_reducible refine gate_callee (f := 12) rfl ?_); refine goesL_ (some 20) rfl rfl Try.func12 (by kernel_rfl) rfl #[.int .u8 a0, .int .u8 a1] rfl (by (try simp only [List.map_toArray, List.map_cons, List.map_nil]); first | done | rfl | (simp only [List.length_drop, List.length_take]; rfl)) ?_; (with_reducible refine (gf256_Mul.calls k a0 a1 t167 _ A10.out).mono ?_); rintro e w' ⟨rfl, ⟨nd, rfl⟩⟩; refine ⟨_, rfl, ?_⟩) | ((with_reducible refine gate_callee (f := 12) rfl ?_); refine goesL_ (some 22) rfl rfl Try.func12 (by kernel_rfl) rfl #[.int .u8 t167, .int .u8 a2] rfl (by (try simp only [List.map_toArray, List.map_cons, List.map_nil]); first | done | rfl | (simp only [List.length_drop, List.length_take]; rfl)) ?_; (with_reducible refine (gf256_Mul.calls k t167 a2 t168 _ A11.out).mono ?_); rintro e w' ⟨rfl, ⟨nd, rfl⟩⟩; refine ⟨_, rfl, ?_⟩))
        go_meet
        case rel => exact ⟨_, (true), (by first | rfl | (simp; done) | (simp [*]; done)), H', ⟨by first | omega | exact Nat.le_refl _⟩, ⟨by repeat (first | (with_reducible first | exact HB.out | apply below_alloc | apply pw_below_drewN | apply below_drew1) | exact HB.out)⟩⟩
    case rest =>
      clear HC6
      try clear c1
      try clear p2
      try clear c5
      try clear c6
      try clear c11
      try clear c12
      try clear c12b0
      try clear c12b1
      obtain ⟨kq, x36_5, rfl, HA, HJ5, HB⟩ := hcut
      cases kq with
      | zero => exact absurd HA.out (by simp [kinkeeplaw02_Gf256Field.j0])
      | succ kj5 =>
        have H := HA.out
        clear HA
        simp only [kinkeeplaw02_Gf256Field.j0] at H
        by_cases c17 : x36_5 = true
        · subst c17
          have H1 : (some false) = some r := by rw [if_pos rfl] at H; exact H
          clear H
          have H := H1
          clear H1
          obtain rfl := Option.some.inj H
          go_wp2
          go_ret
          exact ⟨by first | rfl | (simp [errW_none, errW_some] <;> rfl) | (simp [*, errW_none, errW_some] <;> rfl), by repeat (first | (with_reducible first | exact HB.out | apply below_alloc | apply pw_below_drewN | apply below_drew1) | exact HB.out)⟩
        · replace c17 := Bool.eq_false_iff.mpr c17
          subst c17
          have H1 : ((gf256_Mul.f kj5 a0 a1).bind fun t173 => ((gf256_Mul.f kj5 a1 a0).bind fun t174 => (if t173 = t174 then ((gf256_Add.f a0 a1).bind fun t175 => ((gf256_Add.f a1 a0).bind fun t176 => (if t175 = t176 then ((gf256_Add.f a1 a2).bind fun t177 => ((gf256_Mul.f kj5 a0 t177).bind fun t178 => ((gf256_Mul.f kj5 a0 a1).bind fun t179 => ((gf256_Mul.f kj5 a0 a2).bind fun t180 => ((gf256_Add.f t173 t180).bind fun t181 => (kinkeeplaw02_Gf256Field.j1 kj5 a0 a1 (t178 != t181))))))) else (kinkeeplaw02_Gf256Field.j1 kj5 a0 a1 true)))) else (kinkeeplaw02_Gf256Field.j1 kj5 a0 a1 true)))) = some r := by rw [if_neg (show ¬ (false = true) by decide)] at H; exact H
          clear H
          have H := H1
          clear H1
          have HC18 := Aside0.mk H
          clear H
          go_upto_region 5 with (fail)
          go_cut [67] (fun v67 wc => ∃ (kq : Nat) (x67_17 : Bool), v67 = .bool x67_17 ∧ Aside0 (kinkeeplaw02_Gf256Field.j1 kq a0 a1 x67_17 = some r) ∧ Aside0 (kq ≤ kj5) ∧ Aside0 (Below w.heap.size w wc))
          case first =>
            have H := HC18.out
            clear HC18
            replace H := Option.bind_eq_some_iff.mp H
            obtain ⟨t173, A190, H⟩ := H
            replace H : ((gf256_Mul.f kj5 a1 a0).bind fun t174 => (if t173 = t174 then ((gf256_Add.f a0 a1).bind fun t175 => ((gf256_Add.f a1 a0).bind fun t176 => (if t175 = t176 then ((gf256_Add.f a1 a2).bind fun t177 => ((gf256_Mul.f kj5 a0 t177).bind fun t178 => ((gf256_Mul.f kj5 a0 a1).bind fun t179 => ((gf256_Mul.f kj5 a0 a2).bind fun t180 => ((gf256_Add.f t173 t180).bind fun t181 => (kinkeeplaw02_Gf256Field.j1 kj5 a0 a1 (t178 != t181))))))) else (kinkeeplaw02_Gf256Field.j1 kj5 a0 a1 true)))) else (kinkeeplaw02_Gf256Field.j1 kj5 a0 a1 true))) = some r := H
            have A19 := Aside0.mk A190
            clear A190
            replace H := Option.bind_eq_some_iff.mp H
            obtain ⟨t174, A200, H⟩ := H
            replace H : (if t173 = t174 then ((gf256_Add.f a0 a1).bind fun t175 => ((gf256_Add.f a1 a0).bind fun t176 => (if t175 = t176 then ((gf256_Add.f a1 a2).bind fun t177 => ((gf256_Mul.f kj5 a0 t177).bind fun t178 => ((gf256_Mul.f kj5 a0 a1).bind fun t179 => ((gf256_Mul.f kj5 a0 a2).bind fun t180 => ((gf256_Add.f t173 t180).bind fun t181 => (kinkeeplaw02_Gf256Field.j1 kj5 a0 a1 (t178 != t181))))))) else (kinkeeplaw02_Gf256Field.j1 kj5 a0 a1 true)))) else (kinkeeplaw02_Gf256Field.j1 kj5 a0 a1 true)) = some r := H
            have A20 := Aside0.mk A200
            clear A200
            by_cases c21 : t173 = t174
            · rw [if_pos c21] at H
              have c21b0 : (t173 == t174) = true := beq_iff_eq.mpr c21
              have c21b1 : (t173 != t174) = false := bne_eq_false_iff_eq.mpr c21
              clear c21
              (first | rw [c21b0] | (simp only [i64_w, i32_w]; rw [c21b0]) | skip)
              replace H := Option.bind_eq_some_iff.mp H
              obtain ⟨t175, A220, H⟩ := H
              replace H : ((gf256_Add.f a1 a0).bind fun t176 => (if t175 = t176 then ((gf256_Add.f a1 a2).bind fun t177 => ((gf256_Mul.f kj5 a0 t177).bind fun t178 => ((gf256_Mul.f kj5 a0 a1).bind fun t179 => ((gf256_Mul.f kj5 a0 a2).bind fun t180 => ((gf256_Add.f t173 t180).bind fun t181 => (kinkeeplaw02_Gf256Field.j1 kj5 a0 a1 (t178 != t181))))))) else (kinkeeplaw02_Gf256Field.j1 kj5 a0 a1 true))) = some r := H
              have A22 := Aside0.mk A220
              clear A220
              replace H := Option.bind_eq_some_iff.mp H
              obtain ⟨t176, A230, H⟩ := H
              replace H : (if t175 = t176 then ((gf256_Add.f a1 a2).bind fun t177 => ((gf256_Mul.f kj5 a0 t177).bind fun t178 => ((gf256_Mul.f kj5 a0 a1).bind fun t179 => ((gf256_Mul.f kj5 a0 a2).bind fun t180 => ((gf256_Add.f t173 t180).bind fun t181 => (kinkeeplaw02_Gf256Field.j1 kj5 a0 a1 (t178 != t181))))))) else (kinkeeplaw02_Gf256Field.j1 kj5 a0 a1 true)) = some r := H
              have A23 := Aside0.mk A230
              clear A230
              by_cases c24 : t175 = t176
              · rw [if_pos c24] at H
                have c24b0 : (t175 == t176) = true := beq_iff_eq.mpr c24
                have c24b1 : (t175 != t176) = false := bne_eq_false_iff_eq.mpr c24
                clear c24
                replace H := Option.bind_eq_some_iff.mp H
                obtain ⟨t177, A250, H⟩ := H
                replace H : ((gf256_Mul.f kj5 a0 t177).bind fun t178 => ((gf256_Mul.f kj5 a0 a1).bind fun t179 => ((gf256_Mul.f kj5 a0 a2).bind fun t180 => ((gf256_Add.f t173 t180).bind fun t181 => (kinkeeplaw02_Gf256Field.j1 kj5 a0 a1 (t178 != t181)))))) = some r := H
                have A25 := Aside0.mk A250
                clear A250
                replace H := Option.bind_eq_some_iff.mp H
                obtain ⟨t178, A260, H⟩ := H
                replace H : ((gf256_Mul.f kj5 a0 a1).bind fun t179 => ((gf256_Mul.f kj5 a0 a2).bind fun t180 => ((gf256_Add.f t173 t180).bind fun t181 => (kinkeeplaw02_Gf256Field.j1 kj5 a0 a1 (t178 != t181))))) = some r := H
                have A26 := Aside0.mk A260
                clear A260
                replace H := Option.bind_eq_some_iff.mp H
                obtain ⟨t179, A270, H⟩ := H
                replace H : ((gf256_Mul.f kj5 a0 a2).bind fun t180 => ((gf256_Add.f t173 t180).bind fun t181 => (kinkeeplaw02_Gf256Field.j1 kj5 a0 a1 (t178 != t181)))) = some r := H
                have A27 := Aside0.mk A270
                clear A270
                have E_A27 := Option.some.inj (A27.out.symm.trans A19.out)
                subst t179
                replace H := Option.bind_eq_some_iff.mp H
                obtain ⟨t180, A280, H⟩ := H
                replace H : ((gf256_Add.f t173 t180).bind fun t181 => (kinkeeplaw02_Gf256Field.j1 kj5 a0 a1 (t178 != t181))) = some r := H
                have A28 := Aside0.mk A280
                clear A280
                replace H := Option.bind_eq_some_iff.mp H
                obtain ⟨t181, A290, H⟩ := H
                replace H : (kinkeeplaw02_Gf256Field.j1 kj5 a0 a1 (t178 != t181)) = some r := H
                have A29 := Aside0.mk A290
                clear A290
                have H' := Aside0.mk H
                clear H
                go_wp2_with (first | ((with_reducible refine gate_callee (f := 12) rfl ?_); refine goesL_ (some 39) rfl rfl Try.func12 (by kernel_rfl) rfl #[.int .u8 a0, .int .u8 a1] rfl (by (try simp only [List.map_toArray, List.map_cons, List.map_nil]); first | done | rfl | (simp only [List.length_drop, List.length_take]; rfl)) ?_; (with_reducible refine (gf256_Mul.calls kj5 a0 a1 t173 _ A19.out).mono ?_); rintro e w' ⟨rfl, ⟨nd, rfl⟩⟩; refine ⟨_, rfl, ?_⟩) | ((with_reducible refine gate_callee (f := 12) rfl ?_); refine goesL_ (some 42) rfl rfl Try.func12 (by kernel_rfl) rfl #[.int .u8 a1, .int .u8 a0] rfl (by (try simp only [List.map_toArray, List.map_cons, List.map_nil]); first | done | rfl | (simp only [List.length_drop, List.length_take]; rfl)) ?_; (with_reducible refine (gf256_Mul.calls kj5 a1 a0 t174 _ A20.out).mono ?_); rintro e w' ⟨rfl, ⟨nd, rfl⟩⟩; refine ⟨_, rfl, ?_⟩) | (go_at_call 13; (with_reducible refine (gf256_Add.calls a0 a1 t175 _ A22.out).mono ?_); rintro e w' ⟨rfl, ⟨nd, rfl⟩⟩) | (go_at_call 13; (with_reducible refine (gf256_Add.calls a1 a0 t176 _ A23.out).mono ?_); rintro e w' ⟨rfl, ⟨nd, rfl⟩⟩) | (go_at_call 13; (with_reducible refine (gf256_Add.calls a1 a2 t177 _ A25.out).mono ?_); rintro e w' ⟨rfl, ⟨nd, rfl⟩⟩) | (go_at_call 12; (with_reducible refine (gf256_Mul.calls kj5 a0 t177 t178 _ A26.out).mono ?_); rintro e w' ⟨rfl, ⟨nd, rfl⟩⟩) | (go_at_call 12; (with_reducible refine (gf256_Mul.calls kj5 a0 a1 t173 _ A27.out).mono ?_); rintro e w' ⟨rfl, ⟨nd, rfl⟩⟩) | (go_at_call 12; (with_reducible refine (gf256_Mul.calls kj5 a0 a2 t180 _ A28.out).mono ?_); rintro e w' ⟨rfl, ⟨nd, rfl⟩⟩) | (go_at_call 13; (with_reducible refine (gf256_Add.calls t173 t180 t181 _ A29.out).mono ?_); rintro e w' ⟨rfl, ⟨nd, rfl⟩⟩))
                go_meet
                case rel => exact ⟨_, ((t178 != t181)), (by first | rfl | (simp; done) | (simp [*]; done)), H', ⟨by have := HJ5.out; first | omega | exact Nat.le_refl _⟩, ⟨by repeat (first | (with_reducible first | exact HB.out | apply below_alloc | apply pw_below_drewN | apply below_drew1) | exact HB.out)⟩⟩
              · rw [if_neg c24] at H
                have c24b0 : (t175 == t176) = false := beq_eq_false_iff_ne.mpr c24
                have c24b1 : (t175 != t176) = true := bne_iff_ne.mpr c24
                have H' := Aside0.mk H
                clear H
                go_wp2_with (first | ((with_reducible refine gate_callee (f := 12) rfl ?_); refine goesL_ (some 39) rfl rfl Try.func12 (by kernel_rfl) rfl #[.int .u8 a0, .int .u8 a1] rfl (by (try simp only [List.map_toArray, List.map_cons, List.map_nil]); first | done | rfl | (simp only [List.length_drop, List.length_take]; rfl)) ?_; (with_reducible refine (gf256_Mul.calls kj5 a0 a1 t173 _ A19.out).mono ?_); rintro e w' ⟨rfl, ⟨nd, rfl⟩⟩; refine ⟨_, rfl, ?_⟩) | ((with_reducible refine gate_callee (f := 12) rfl ?_); refine goesL_ (some 42) rfl rfl Try.func12 (by kernel_rfl) rfl #[.int .u8 a1, .int .u8 a0] rfl (by (try simp only [List.map_toArray, List.map_cons, List.map_nil]); first | done | rfl | (simp only [List.length_drop, List.length_take]; rfl)) ?_; (with_reducible refine (gf256_Mul.calls kj5 a1 a0 t174 _ A20.out).mono ?_); rintro e w' ⟨rfl, ⟨nd, rfl⟩⟩; refine ⟨_, rfl, ?_⟩) | (go_at_call 13; (with_reducible refine (gf256_Add.calls a0 a1 t175 _ A22.out).mono ?_); rintro e w' ⟨rfl, ⟨nd, rfl⟩⟩) | (go_at_call 13; (with_reducible refine (gf256_Add.calls a1 a0 t176 _ A23.out).mono ?_); rintro e w' ⟨rfl, ⟨nd, rfl⟩⟩))
                go_meet
                case rel => exact ⟨_, (true), (by first | rfl | (simp; done) | (simp [*]; done)), H', ⟨by have := HJ5.out; first | omega | exact Nat.le_refl _⟩, ⟨by repeat (first | (with_reducible first | exact HB.out | apply below_alloc | apply pw_below_drewN | apply below_drew1) | exact HB.out)⟩⟩
            · rw [if_neg c21] at H
              have c21b0 : (t173 == t174) = false := beq_eq_false_iff_ne.mpr c21
              have c21b1 : (t173 != t174) = true := bne_iff_ne.mpr c21
              (first | rw [c21b0] | (simp only [i64_w, i32_w]; rw [c21b0]) | skip)
              have H' := Aside0.mk H
              clear H
              go_wp2_with (first | ((with_reducible refine gate_callee (f := 12) rfl ?_); refine goesL_ (some 39) rfl rfl Try.func12 (by kernel_rfl) rfl #[.int .u8 a0, .int .u8 a1] rfl (by (try simp only [List.map_toArray, List.map_cons, List.map_nil]); first | done | rfl | (simp only [List.length_drop, List.length_take]; rfl)) ?_; (with_reducible refine (gf256_Mul.calls kj5 a0 a1 t173 _ A19.out).mono ?_); rintro e w' ⟨rfl, ⟨nd, rfl⟩⟩; refine ⟨_, rfl, ?_⟩) | ((with_reducible refine gate_callee (f := 12) rfl ?_); refine goesL_ (some 42) rfl rfl Try.func12 (by kernel_rfl) rfl #[.int .u8 a1, .int .u8 a0] rfl (by (try simp only [List.map_toArray, List.map_cons, List.map_nil]); first | done | rfl | (simp only [List.length_drop, List.length_take]; rfl)) ?_; (with_reducible refine (gf256_Mul.calls kj5 a1 a0 t174 _ A20.out).mono ?_); rintro e w' ⟨rfl, ⟨nd, rfl⟩⟩; refine ⟨_, rfl, ?_⟩))
              go_meet
              case rel => exact ⟨_, (true), (by first | rfl | (simp; done) | (simp [*]; done)), H', ⟨by have := HJ5.out; first | omega | exact Nat.le_refl _⟩, ⟨by repeat (first | (with_reducible first | exact HB.out | apply below_alloc | apply pw_below_drewN | apply below_drew1) | exact HB.out)⟩⟩
          case rest =>
            clear HC18
            try clear c1
            try clear c2
            try clear p2
            try clear c5
            try clear c6
            try clear c11
            try clear c12
            try clear c12b0
            try clear c12b1
            try clear c17
            try clear c21
            try clear c21b0
            try clear c21b1
            try clear c24
            try clear c24b0
            try clear c24b1
            try clear p2
            obtain ⟨kq, x67_17, rfl, HA, HJ17, HB⟩ := hcut
            cases kq with
            | zero => exact absurd HA.out (by simp [kinkeeplaw02_Gf256Field.j1])
            | succ kj17 =>
              have H := HA.out
              clear HA
              simp only [kinkeeplaw02_Gf256Field.j1] at H
              by_cases c30 : x67_17 = true
              · subst c30
                have H1 : (some false) = some r := by rw [if_pos rfl] at H; exact H
                clear H
                have H := H1
                clear H1
                obtain rfl := Option.some.inj H
                go_wp2
                go_ret
                exact ⟨by first | rfl | (simp [errW_none, errW_some] <;> rfl) | (simp [*, errW_none, errW_some] <;> rfl), by repeat (first | (with_reducible first | exact HB.out | apply below_alloc | apply pw_below_drewN | apply below_drew1) | exact HB.out)⟩
              · replace c30 := Bool.eq_false_iff.mpr c30
                subst c30
                have H1 : ((gf256_Inv.f kj17 a0).bind fun bt182 => ((gf256_Add.f a0 0).bind fun t184 => (if t184 = a0 then ((gf256_Mul.f kj17 a0 1).bind fun t185 => (if t185 = a0 then ((gf256_Add.f a0 a0).bind fun t186 => (if t186 = 0 then (kinkeeplaw02_Gf256Field.j2 kj17 a0 a1 bt182.1 ((bt182.2 == 0) != (a0 != 0))) else (kinkeeplaw02_Gf256Field.j2 kj17 a0 a1 bt182.1 true))) else (kinkeeplaw02_Gf256Field.j2 kj17 a0 a1 bt182.1 true))) else (kinkeeplaw02_Gf256Field.j2 kj17 a0 a1 bt182.1 true)))) = some r := by rw [if_neg (show ¬ (false = true) by decide)] at H; exact H
                clear H
                have H := H1
                clear H1
                replace H := Option.bind_eq_some_iff.mp H
                obtain ⟨⟨t182, t183⟩, A310, H⟩ := H
                replace H : ((gf256_Add.f a0 0).bind fun t184 => (if t184 = a0 then ((gf256_Mul.f kj17 a0 1).bind fun t185 => (if t185 = a0 then ((gf256_Add.f a0 a0).bind fun t186 => (if t186 = 0 then (kinkeeplaw02_Gf256Field.j2 kj17 a0 a1 t182 ((t183 == 0) != (a0 != 0))) else (kinkeeplaw02_Gf256Field.j2 kj17 a0 a1 t182 true))) else (kinkeeplaw02_Gf256Field.j2 kj17 a0 a1 t182 true))) else (kinkeeplaw02_Gf256Field.j2 kj17 a0 a1 t182 true))) = some r := H
                have A31 := Aside0.mk A310
                clear A310
                have HC32 := Aside0.mk H
                clear H
                go_upto_region 8 with (first | ((with_reducible refine gate_callee (f := 17) rfl ?_); refine goesL_ (some 70) rfl rfl Try.func17 (by kernel_rfl) rfl #[.int .u8 a0] rfl (by (try simp only [List.map_toArray, List.map_cons, List.map_nil]); first | done | rfl | (simp only [List.length_drop, List.length_take]; rfl)) ?_; (with_reducible refine (gf256_Inv.calls kj17 a0 t182 t183 _ A31.out).mono ?_); rintro e w' ⟨rfl, ⟨nd, rfl⟩⟩; refine ⟨_, rfl, ?_⟩))
                (try simp only [Act.put, List.setIfInBounds_toArray, List.set_cons_zero, List.set_cons_succ])
                go_cut [95] (fun v95 wc => ∃ (kq : Nat) (x95_31 : Bool), v95 = .bool x95_31 ∧ Aside0 (kinkeeplaw02_Gf256Field.j2 kq a0 a1 t182 x95_31 = some r) ∧ Aside0 (kq ≤ kj17) ∧ Aside0 (Below w.heap.size w wc))
                case first =>
                  have H := HC32.out
                  clear HC32
                  replace H := Option.bind_eq_some_iff.mp H
                  obtain ⟨t184, A330, H⟩ := H
                  replace H : (if t184 = a0 then ((gf256_Mul.f kj17 a0 1).bind fun t185 => (if t185 = a0 then ((gf256_Add.f a0 a0).bind fun t186 => (if t186 = 0 then (kinkeeplaw02_Gf256Field.j2 kj17 a0 a1 t182 ((t183 == 0) != (a0 != 0))) else (kinkeeplaw02_Gf256Field.j2 kj17 a0 a1 t182 true))) else (kinkeeplaw02_Gf256Field.j2 kj17 a0 a1 t182 true))) else (kinkeeplaw02_Gf256Field.j2 kj17 a0 a1 t182 true)) = some r := H
                  have A33 := Aside0.mk A330
                  clear A330
                  by_cases c34 : t184 = a0
                  · rw [if_pos c34] at H
                    have c34b0 : (t184 == a0) = true := beq_iff_eq.mpr c34
                    have c34b1 : (t184 != a0) = false := bne_eq_false_iff_eq.mpr c34
                    clear c34
                    (first | rw [c34b0] | (simp only [i64_w, i32_w]; rw [c34b0]) | skip)
                    replace H := Option.bind_eq_some_iff.mp H
                    obtain ⟨t185, A350, H⟩ := H
                    replace H : (if t185 = a0 then ((gf256_Add.f a0 a0).bind fun t186 => (if t186 = 0 then (kinkeeplaw02_Gf256Field.j2 kj17 a0 a1 t182 ((t183 == 0) != (a0 != 0))) else (kinkeeplaw02_Gf256Field.j2 kj17 a0 a1 t182 true))) else (kinkeeplaw02_Gf256Field.j2 kj17 a0 a1 t182 true)) = some r := H
                    have A35 := Aside0.mk A350
                    clear A350
                    by_cases c36 : t185 = a0
                    · rw [if_pos c36] at H
                      have c36b0 : (t185 == a0) = true := beq_iff_eq.mpr c36
                      have c36b1 : (t185 != a0) = false := bne_eq_false_iff_eq.mpr c36
                      clear c36
                      replace H := Option.bind_eq_some_iff.mp H
                      obtain ⟨t186, A370, H⟩ := H
                      replace H : (if t186 = 0 then (kinkeeplaw02_Gf256Field.j2 kj17 a0 a1 t182 ((t183 == 0) != (a0 != 0))) else (kinkeeplaw02_Gf256Field.j2 kj17 a0 a1 t182 true)) = some r := H
                      have A37 := Aside0.mk A370
                      clear A370
                      by_cases c38 : t186 = 0
                      · rw [if_pos c38] at H
                        have c38b0 : (t186 == 0) = true := beq_iff_eq.mpr c38
                        have c38b1 : (t186 != 0) = false := bne_eq_false_iff_eq.mpr c38
                        clear c38
                        have H' := Aside0.mk H
                        clear H
                        go_wp2_with (first | ((with_reducible refine gate_callee (f := 13) rfl ?_); refine goesL_ (some 74) rfl rfl Try.func13 (by kernel_rfl) rfl #[.int .u8 a0, .int .u8 0] rfl (by (try simp only [List.map_toArray, List.map_cons, List.map_nil]); first | done | rfl | (simp only [List.length_drop, List.length_take]; rfl)) ?_; (with_reducible refine (gf256_Add.calls a0 0 t184 _ A33.out).mono ?_); rintro e w' ⟨rfl, ⟨nd, rfl⟩⟩; refine ⟨_, rfl, ?_⟩) | (go_at_call 12; (with_reducible refine (gf256_Mul.calls kj17 a0 1 t185 _ A35.out).mono ?_); rintro e w' ⟨rfl, ⟨nd, rfl⟩⟩) | (go_at_call 13; (with_reducible refine (gf256_Add.calls a0 a0 t186 _ A37.out).mono ?_); rintro e w' ⟨rfl, ⟨nd, rfl⟩⟩))
                        go_meet
                        case rel => exact ⟨_, (((t183 == 0) != (a0 != 0))), (by first | rfl | (simp; done) | (simp [*]; done)), H', ⟨by have := HJ5.out; have := HJ17.out; first | omega | exact Nat.le_refl _⟩, ⟨by repeat (first | (with_reducible first | exact HB.out | apply below_alloc | apply pw_below_drewN | apply below_drew1) | exact HB.out)⟩⟩
                      · rw [if_neg c38] at H
                        have c38b0 : (t186 == 0) = false := beq_eq_false_iff_ne.mpr c38
                        have c38b1 : (t186 != 0) = true := bne_iff_ne.mpr c38
                        have H' := Aside0.mk H
                        clear H
                        go_wp2_with (first | ((with_reducible refine gate_callee (f := 13) rfl ?_); refine goesL_ (some 74) rfl rfl Try.func13 (by kernel_rfl) rfl #[.int .u8 a0, .int .u8 0] rfl (by (try simp only [List.map_toArray, List.map_cons, List.map_nil]); first | done | rfl | (simp only [List.length_drop, List.length_take]; rfl)) ?_; (with_reducible refine (gf256_Add.calls a0 0 t184 _ A33.out).mono ?_); rintro e w' ⟨rfl, ⟨nd, rfl⟩⟩; refine ⟨_, rfl, ?_⟩) | (go_at_call 12; (with_reducible refine (gf256_Mul.calls kj17 a0 1 t185 _ A35.out).mono ?_); rintro e w' ⟨rfl, ⟨nd, rfl⟩⟩) | (go_at_call 13; (with_reducible refine (gf256_Add.calls a0 a0 t186 _ A37.out).mono ?_); rintro e w' ⟨rfl, ⟨nd, rfl⟩⟩))
                        go_meet
                        case rel => exact ⟨_, (true), (by first | rfl | (simp; done) | (simp [*]; done)), H', ⟨by have := HJ5.out; have := HJ17.out; first | omega | exact Nat.le_refl _⟩, ⟨by repeat (first | (with_reducible first | exact HB.out | apply below_alloc | apply pw_below_drewN | apply below_drew1) | exact HB.out)⟩⟩
                    · rw [if_neg c36] at H
                      have c36b0 : (t185 == a0) = false := beq_eq_false_iff_ne.mpr c36
                      have c36b1 : (t185 != a0) = true := bne_iff_ne.mpr c36
                      have H' := Aside0.mk H
                      clear H
                      go_wp2_with (first | ((with_reducible refine gate_callee (f := 13) rfl ?_); refine goesL_ (some 74) rfl rfl Try.func13 (by kernel_rfl) rfl #[.int .u8 a0, .int .u8 0] rfl (by (try simp only [List.map_toArray, List.map_cons, List.map_nil]); first | done | rfl | (simp only [List.length_drop, List.length_take]; rfl)) ?_; (with_reducible refine (gf256_Add.calls a0 0 t184 _ A33.out).mono ?_); rintro e w' ⟨rfl, ⟨nd, rfl⟩⟩; refine ⟨_, rfl, ?_⟩) | (go_at_call 12; (with_reducible refine (gf256_Mul.calls kj17 a0 1 t185 _ A35.out).mono ?_); rintro e w' ⟨rfl, ⟨nd, rfl⟩⟩))
                      go_meet
                      case rel => exact ⟨_, (true), (by first | rfl | (simp; done) | (simp [*]; done)), H', ⟨by have := HJ5.out; have := HJ17.out; first | omega | exact Nat.le_refl _⟩, ⟨by repeat (first | (with_reducible first | exact HB.out | apply below_alloc | apply pw_below_drewN | apply below_drew1) | exact HB.out)⟩⟩
                  · rw [if_neg c34] at H
                    have c34b0 : (t184 == a0) = false := beq_eq_false_iff_ne.mpr c34
                    have c34b1 : (t184 != a0) = true := bne_iff_ne.mpr c34
                    (first | rw [c34b0] | (simp only [i64_w, i32_w]; rw [c34b0]) | skip)
                    have H' := Aside0.mk H
                    clear H
                    go_wp2_with (first | ((with_reducible refine gate_callee (f := 13) rfl ?_); refine goesL_ (some 74) rfl rfl Try.func13 (by kernel_rfl) rfl #[.int .u8 a0, .int .u8 0] rfl (by (try simp only [List.map_toArray, List.map_cons, List.map_nil]); first | done | rfl | (simp only [List.length_drop, List.length_take]; rfl)) ?_; (with_reducible refine (gf256_Add.calls a0 0 t184 _ A33.out).mono ?_); rintro e w' ⟨rfl, ⟨nd, rfl⟩⟩; refine ⟨_, rfl, ?_⟩))
                    go_meet
                    case rel => exact ⟨_, (true), (by first | rfl | (simp; done) | (simp [*]; done)), H', ⟨by have := HJ5.out; have := HJ17.out; first | omega | exact Nat.le_refl _⟩, ⟨by repeat (first | (with_reducible first | exact HB.out | apply below_alloc | apply pw_below_drewN | apply below_drew1) | exact HB.out)⟩⟩
                case rest =>
                  clear HC32
                  try clear c1
                  try clear c2
                  try clear p2
                  try clear c3
                  try clear c5
                  try clear c6
                  try clear c11
                  try clear c12
                  try clear c12b0
                  try clear c12b1
                  try clear c13
                  try clear c17
                  try clear c21
                  try clear c21b0
                  try clear c21b1
                  try clear c24
                  try clear c24b0
                  try clear c24b1
                  try clear c30
                  try clear c34
                  try clear c34b0
                  try clear c34b1
                  try clear c36
                  try clear c36b0
                  try clear c36b1
                  try clear c38
                  try clear c38b0
                  try clear c38b1
                  try clear p2
                  obtain ⟨kq, x95_31, rfl, HA, HJ31, HB⟩ := hcut
                  cases kq with
                  | zero => exact absurd HA.out (by simp [kinkeeplaw02_Gf256Field.j2])
                  | succ kj31 =>
                    have H := HA.out
                    clear HA
                    simp only [kinkeeplaw02_Gf256Field.j2] at H
                    by_cases c39 : x95_31 = true
                    · subst c39
                      have H1 : (some false) = some r := by rw [if_pos rfl] at H; exact H
                      clear H
                      have H := H1
                      clear H1
                      obtain rfl := Option.some.inj H
                      go_wp2
                      go_ret
                      exact ⟨by first | rfl | (simp [errW_none, errW_some] <;> rfl) | (simp [*, errW_none, errW_some] <;> rfl), by repeat (first | (with_reducible first | exact HB.out | apply below_alloc | apply pw_below_drewN | apply below_drew1) | exact HB.out)⟩
                    · replace c39 := Bool.eq_false_iff.mpr c39
                      subst c39
                      have H1 : ((gf256_Mul.f kj31 a1 a0).bind fun t187 => ((gf256_Div.f kj31 t187 a0).bind fun bt188 => (if a0 = 0 then (some true) else ((gf256_Mul.f kj31 a0 t182).bind fun t190 => (if t190 = 1 then (if bt188.2 = 0 then (some (bt188.1 == a1)) else (some false)) else (some false)))))) = some r := by rw [if_neg (show ¬ (false = true) by decide)] at H; exact H
                      clear H
                      have H := H1
                      clear H1
                      replace H := Option.bind_eq_some_iff.mp H
                      obtain ⟨t187, A400, H⟩ := H
                      replace H : ((gf256_Div.f kj31 t187 a0).bind fun bt188 => (if a0 = 0 then (some true) else ((gf256_Mul.f kj31 a0 t182).bind fun t190 => (if t190 = 1 then (if bt188.2 = 0 then (some (bt188.1 == a1)) else (some false)) else (some false))))) = some r := H
                      have A40 := Aside0.mk A400
                      clear A400
                      replace H := Option.bind_eq_some_iff.mp H
                      obtain ⟨⟨t188, t189⟩, A410, H⟩ := H
                      replace H : (if a0 = 0 then (some true) else ((gf256_Mul.f kj31 a0 t182).bind fun t190 => (if t190 = 1 then (if t189 = 0 then (some (t188 == a1)) else (some false)) else (some false)))) = some r := H
                      have A41 := Aside0.mk A410
                      clear A410
                      by_cases c42 : a0 = 0
                      · rw [if_pos c42] at H
                        have c42b0 : (a0 == 0) = true := beq_iff_eq.mpr c42
                        have c42b1 : (a0 != 0) = false := bne_eq_false_iff_eq.mpr c42
                        clear c42
                        obtain rfl := Option.some.inj H
                        go_wp2_with (first | ((with_reducible refine gate_callee (f := 12) rfl ?_); refine goesL_ (some 99) rfl rfl Try.func12 (by kernel_rfl) rfl #[.int .u8 a1, .int .u8 a0] rfl (by (try simp only [List.map_toArray, List.map_cons, List.map_nil]); first | done | rfl | (simp only [List.length_drop, List.length_take]; rfl)) ?_; (with_reducible refine (gf256_Mul.calls kj31 a1 a0 t187 _ A40.out).mono ?_); rintro e w' ⟨rfl, ⟨nd, rfl⟩⟩; refine ⟨_, rfl, ?_⟩) | ((with_reducible refine gate_callee (f := 16) rfl ?_); refine goesL_ (some 101) rfl rfl Try.func16 (by kernel_rfl) rfl #[.int .u8 t187, .int .u8 a0] rfl (by (try simp only [List.map_toArray, List.map_cons, List.map_nil]); first | done | rfl | (simp only [List.length_drop, List.length_take]; rfl)) ?_; (with_reducible refine (gf256_Div.calls kj31 t187 a0 t188 t189 _ A41.out).mono ?_); rintro e w' ⟨rfl, ⟨nd, rfl⟩⟩; refine ⟨_, rfl, ?_⟩))
                        go_ret
                        exact ⟨by first | rfl | (simp [errW_none, errW_some] <;> rfl) | (simp [*, errW_none, errW_some] <;> rfl), by repeat (first | (with_reducible first | exact HB.out | apply below_alloc | apply pw_below_drewN | apply below_drew1) | exact HB.out)⟩
                      · rw [if_neg c42] at H
                        have c42b0 : (a0 == 0) = false := beq_eq_false_iff_ne.mpr c42
                        have c42b1 : (a0 != 0) = true := bne_iff_ne.mpr c42
                        replace H := Option.bind_eq_some_iff.mp H
                        obtain ⟨t190, A430, H⟩ := H
                        replace H : (if t190 = 1 then (if t189 = 0 then (some (t188 == a1)) else (some false)) else (some false)) = some r := H
                        have A43 := Aside0.mk A430
                        clear A430
                        by_cases c44 : t190 = 1
                        · rw [if_pos c44] at H
                          have c44b0 : (t190 == 1) = true := beq_iff_eq.mpr c44
                          have c44b1 : (t190 != 1) = false := bne_eq_false_iff_eq.mpr c44
                          clear c44
                          by_cases c45 : t189 = 0
                          · rw [if_pos c45] at H
                            have c45b0 : (t189 == 0) = true := beq_iff_eq.mpr c45
                            have c45b1 : (t189 != 0) = false := bne_eq_false_iff_eq.mpr c45
                            clear c45
                            obtain rfl := Option.some.inj H
                            go_wp2_with (first | ((with_reducible refine gate_callee (f := 12) rfl ?_); refine goesL_ (some 99) rfl rfl Try.func12 (by kernel_rfl) rfl #[.int .u8 a1, .int .u8 a0] rfl (by (try simp only [List.map_toArray, List.map_cons, List.map_nil]); first | done | rfl | (simp only [List.length_drop, List.length_take]; rfl)) ?_; (with_reducible refine (gf256_Mul.calls kj31 a1 a0 t187 _ A40.out).mono ?_); rintro e w' ⟨rfl, ⟨nd, rfl⟩⟩; refine ⟨_, rfl, ?_⟩) | ((with_reducible refine gate_callee (f := 16) rfl ?_); refine goesL_ (some 101) rfl rfl Try.func16 (by kernel_rfl) rfl #[.int .u8 t187, .int .u8 a0] rfl (by (try simp only [List.map_toArray, List.map_cons, List.map_nil]); first | done | rfl | (simp only [List.length_drop, List.length_take]; rfl)) ?_; (with_reducible refine (gf256_Div.calls kj31 t187 a0 t188 t189 _ A41.out).mono ?_); rintro e w' ⟨rfl, ⟨nd, rfl⟩⟩; refine ⟨_, rfl, ?_⟩) | (go_at_call 12; (with_reducible refine (gf256_Mul.calls kj31 a0 t182 t190 _ A43.out).mono ?_); rintro e w' ⟨rfl, ⟨nd, rfl⟩⟩))
                            go_ret
                            exact ⟨by first | rfl | (simp [errW_none, errW_some] <;> rfl) | (simp [*, errW_none, errW_some] <;> rfl), by repeat (first | (with_reducible first | exact HB.out | apply below_alloc | apply pw_below_drewN | apply below_drew1) | exact HB.out)⟩
                          · rw [if_neg c45] at H
                            have c45b0 : (t189 == 0) = false := beq_eq_false_iff_ne.mpr c45
                            have c45b1 : (t189 != 0) = true := bne_iff_ne.mpr c45
                            obtain rfl := Option.some.inj H
                            go_wp2_with (first | ((with_reducible refine gate_callee (f := 12) rfl ?_); refine goesL_ (some 99) rfl rfl Try.func12 (by kernel_rfl) rfl #[.int .u8 a1, .int .u8 a0] rfl (by (try simp only [List.map_toArray, List.map_cons, List.map_nil]); first | done | rfl | (simp only [List.length_drop, List.length_take]; rfl)) ?_; (with_reducible refine (gf256_Mul.calls kj31 a1 a0 t187 _ A40.out).mono ?_); rintro e w' ⟨rfl, ⟨nd, rfl⟩⟩; refine ⟨_, rfl, ?_⟩) | ((with_reducible refine gate_callee (f := 16) rfl ?_); refine goesL_ (some 101) rfl rfl Try.func16 (by kernel_rfl) rfl #[.int .u8 t187, .int .u8 a0] rfl (by (try simp only [List.map_toArray, List.map_cons, List.map_nil]); first | done | rfl | (simp only [List.length_drop, List.length_take]; rfl)) ?_; (with_reducible refine (gf256_Div.calls kj31 t187 a0 t188 t189 _ A41.out).mono ?_); rintro e w' ⟨rfl, ⟨nd, rfl⟩⟩; refine ⟨_, rfl, ?_⟩) | (go_at_call 12; (with_reducible refine (gf256_Mul.calls kj31 a0 t182 t190 _ A43.out).mono ?_); rintro e w' ⟨rfl, ⟨nd, rfl⟩⟩))
                            go_ret
                            exact ⟨by first | rfl | (simp [errW_none, errW_some] <;> rfl) | (simp [*, errW_none, errW_some] <;> rfl), by repeat (first | (with_reducible first | exact HB.out | apply below_alloc | apply pw_below_drewN | apply below_drew1) | exact HB.out)⟩
                        · rw [if_neg c44] at H
                          have c44b0 : (t190 == 1) = false := beq_eq_false_iff_ne.mpr c44
                          have c44b1 : (t190 != 1) = true := bne_iff_ne.mpr c44
                          obtain rfl := Option.some.inj H
                          go_wp2_with (first | ((with_reducible refine gate_callee (f := 12) rfl ?_); refine goesL_ (some 99) rfl rfl Try.func12 (by kernel_rfl) rfl #[.int .u8 a1, .int .u8 a0] rfl (by (try simp only [List.map_toArray, List.map_cons, List.map_nil]); first | done | rfl | (simp only [List.length_drop, List.length_take]; rfl)) ?_; (with_reducible refine (gf256_Mul.calls kj31 a1 a0 t187 _ A40.out).mono ?_); rintro e w' ⟨rfl, ⟨nd, rfl⟩⟩; refine ⟨_, rfl, ?_⟩) | ((with_reducible refine gate_callee (f := 16) rfl ?_); refine goesL_ (some 101) rfl rfl Try.func16 (by kernel_rfl) rfl #[.int .u8 t187, .int .u8 a0] rfl (by (try simp only [List.map_toArray, List.map_cons, List.map_nil]); first | done | rfl | (simp only [List.length_drop, List.length_take]; rfl)) ?_; (with_reducible refine (gf256_Div.calls kj31 t187 a0 t188 t189 _ A41.out).mono ?_); rintro e w' ⟨rfl, ⟨nd, rfl⟩⟩; refine ⟨_, rfl, ?_⟩) | (go_at_call 12; (with_reducible refine (gf256_Mul.calls kj31 a0 t182 t190 _ A43.out).mono ?_); rintro e w' ⟨rfl, ⟨nd, rfl⟩⟩))
                          go_ret
                          exact ⟨by first | rfl | (simp [errW_none, errW_some] <;> rfl) | (simp [*, errW_none, errW_some] <;> rfl), by repeat (first | (with_reducible first | exact HB.out | apply below_alloc | apply pw_below_drewN | apply below_drew1) | exact HB.out)⟩
  · replace c5 := Bool.eq_false_iff.mpr c5
    subst c5
    have H1 : (some false) = some r := by rw [if_neg (show ¬ (false = true) by decide)] at H; exact H
    clear H
    have H := H1
    clear H1
    obtain rfl := Option.some.inj H
    go_enter Try.func6, Try.ntmps6
    go_wp2_with (first | ((with_reducible refine gate_callee (f := 11) rfl ?_); refine goesL_ (some 11) rfl rfl Try.func11 (by kernel_rfl) rfl #[] rfl (by (try simp only [List.map_toArray, List.map_cons, List.map_nil]); first | done | rfl | (simp only [List.length_drop, List.length_take]; rfl)) ?_; (with_reducible refine (kinkeeplaw02_awake.calls k  false _ A4.out).mono ?_); rintro e w46 ⟨rfl, hb⟩; refine ⟨_, rfl, ?_⟩; have n0_ := Aside0.mk (below_step (by repeat (first | (with_reducible first | exact HB.out | apply below_alloc | apply pw_below_drewN | apply below_drew1) | exact HB.out)) hb); clear HB; have HB := n0_; clear n0_; (try clear hb); (try clear hb2); (try clear hk); (try clear hi)))
    go_ret
    exact ⟨by first | rfl | (simp [errW_none, errW_some] <;> rfl) | (simp [*, errW_none, errW_some] <;> rfl), by repeat (first | (with_reducible first | exact HB.out | apply below_alloc | apply pw_below_drewN | apply below_drew1) | exact HB.out)⟩

/-- THE ONE PURE STATEMENT of kinkeeplaw02_Gf256Field: yours. -/
def kinkeeplaw02_Gf256Field.Pure : Prop := ∀ (a0 : Int) (a1 : Int) (a2 : Int), (Lit.int .u8 a0).wf = true → (Lit.int .u8 a1).wf = true → (Lit.int .u8 a2).wf = true → ∃ k, kinkeeplaw02_Gf256Field.f k a0 a1 a2 = some true
theorem kinkeeplaw02_Gf256Field.walk (P : kinkeeplaw02_Gf256Field.Pure) (a0 : Int) (a1 : Int) (a2 : Int) (w : World) (w0 : (Lit.int .u8 a0).wf = true) (w1 : (Lit.int .u8 a1).wf = true) (w2 : (Lit.int .u8 a2).wf = true) :
    Calls Try.prog 6 #[.int .u8 a0, .int .u8 a1, .int .u8 a2] w fun e w' => e = .returned (.bool true) ∧ Below w.heap.size w w' := by
  obtain ⟨k, h⟩ := P a0 a1 a2 w0 w1 w2
  refine (kinkeeplaw02_Gf256Field.calls k a0 a1 a2 true w h).mono ?_
  rintro e w' ⟨rfl, hd⟩
  exact ⟨rfl, hd⟩

end Go.Proofs.Ytaagfllcfkjkgaa.PG
