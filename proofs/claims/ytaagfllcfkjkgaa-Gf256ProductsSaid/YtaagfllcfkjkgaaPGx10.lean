-- Written by a program of this session (a patched copy of the kit's print.py, over given contracts proved by hand). Lean checks it.
import Derived.Test.YtaagfllcfkjkgaaPGx0
import Derived.Test.YtaagfllcfkjkgaaPGx1
import Derived.Test.YtaagfllcfkjkgaaPGx2
import Derived.Test.YtaagfllcfkjkgaaPGx7
namespace Go.Proofs.Ytaagfllcfkjkgaa.PG
open Go.RowKit Go.Proofs.YtaagfllcfkjkgaaW.PrintWords Go.Proofs.YtaagfllcfkjkgaaW.PrintLast Go.Proofs.YtaagfllcfkjkgaaW.PrintMore
attribute [local go_sem] max2_int min2_int max_two min_two max_three min_three max_four min_four   -- for this text's walks alone
set_option linter.unusedVariables false
set_option linter.unusedSimpArgs false

/-! ### kinkeeplaw02_Gf256Products: function 5 -/
def kinkeeplaw02_Gf256Products.j0 : Nat → Int → Int → Int → Int → Int → Int → Bool → Option (Bool)
  | 0, _, _, _, _, _, _, _ => none
  | k + 1, x0, x1, x5, x6, x7, x8, x37 => if x37 = true then (some false) else (if x1 = 0 then (if x6 = 1 then (if x8 = 1 then (if x5 = 0 then (some (x7 == 0)) else (some false)) else (some false)) else (some false)) else (if x6 = 0 then (if x8 = 0 then ((kinkeepref02_Inv.f k x1).bind fun t161 => (if x7 = t161 then ((kinkeepref02_Inv.f k x1).bind fun t162 => ((kinkeepref02_Mul.f k x0 t161).bind fun t163 => (some (x5 == t163)))) else (some false))) else (some false)) else (some false)))
def kinkeeplaw02_Gf256Products.f (k : Nat) (a0 : Int) (a1 : Int) : Option (Bool) := (kinkeeplaw02_awake.f k).bind fun t153 => (if t153 = true then ((gf256_Div.f k a0 a1).bind fun bt154 => ((gf256_Inv.f k a1).bind fun bt156 => ((gf256_Add.f a0 a1).bind fun t158 => (if t158 = (Go.bits .xor .u8 a0 a1) then ((gf256_Mul.f k a0 a1).bind fun t159 => ((kinkeepref02_Mul.f k a0 a1).bind fun t160 => (kinkeeplaw02_Gf256Products.j0 k a0 a1 bt154.1 bt154.2 bt156.1 bt156.2 (t159 != t160)))) else (kinkeeplaw02_Gf256Products.j0 k a0 a1 bt154.1 bt154.2 bt156.1 bt156.2 true))))) else (some false))
theorem kinkeeplaw02_Gf256Products.mono_l : ∀ k, (∀ y0 y1 y2 y3 y4 y5 y6, LeO (kinkeeplaw02_Gf256Products.j0 k y0 y1 y2 y3 y4 y5 y6) (kinkeeplaw02_Gf256Products.j0 (k + 1) y0 y1 y2 y3 y4 y5 y6))
  | 0 => fun _ _ _ _ _ _ _ r h => by simp [kinkeeplaw02_Gf256Products.j0] at h
  | k + 1 => by
    have ih0 := kinkeeplaw02_Gf256Products.mono_l k
    · intro y0 y1 y2 y3 y4 y5 y6
      unfold kinkeeplaw02_Gf256Products.j0
      repeat' first
      | (with_reducible exact ih0 _ _ _ _ _ _ _)
      | (with_reducible exact gf256_Div.mono _ _ _)
      | (with_reducible exact gf256_Inv.mono _ _)
      | (with_reducible exact gf256_Mul.mono _ _ _)
      | (with_reducible exact kinkeeplaw02_awake.mono _)
      | (with_reducible exact kinkeepref02_Inv.mono _ _)
      | (with_reducible exact kinkeepref02_Mul.mono _ _ _)
      | (with_reducible exact LeO.refl _)
      | (with_reducible exact LeO.none _)
      | (with_reducible refine LeO.ite ?_ ?_)
      | (with_reducible refine LeO.bind ?_ (fun _ => ?_))
      | exact ih0 _ _ _ _ _ _ _
      | exact gf256_Div.mono _ _ _
      | exact gf256_Inv.mono _ _
      | exact gf256_Mul.mono _ _ _
      | exact kinkeeplaw02_awake.mono _
      | exact kinkeepref02_Inv.mono _ _
      | exact kinkeepref02_Mul.mono _ _ _
      | exact LeO.none _
      | refine LeO.ite ?_ ?_
      | refine LeO.bind ?_ (fun _ => ?_)
theorem kinkeeplaw02_Gf256Products.mono : ∀ a0 a1 k, LeO (kinkeeplaw02_Gf256Products.f k a0 a1) (kinkeeplaw02_Gf256Products.f (k + 1) a0 a1) := by
  intro a0 a1 k
  have ih0 := kinkeeplaw02_Gf256Products.mono_l k
  unfold kinkeeplaw02_Gf256Products.f
  repeat' first
      | (with_reducible exact ih0 _ _ _ _ _ _ _)
      | (with_reducible exact gf256_Div.mono _ _ _)
      | (with_reducible exact gf256_Inv.mono _ _)
      | (with_reducible exact gf256_Mul.mono _ _ _)
      | (with_reducible exact kinkeeplaw02_awake.mono _)
      | (with_reducible exact kinkeepref02_Inv.mono _ _)
      | (with_reducible exact kinkeepref02_Mul.mono _ _ _)
      | (with_reducible exact LeO.refl _)
      | (with_reducible exact LeO.none _)
      | (with_reducible refine LeO.ite ?_ ?_)
      | (with_reducible refine LeO.bind ?_ (fun _ => ?_))
      | exact ih0 _ _ _ _ _ _ _
      | exact gf256_Div.mono _ _ _
      | exact gf256_Inv.mono _ _
      | exact gf256_Mul.mono _ _ _
      | exact kinkeeplaw02_awake.mono _
      | exact kinkeepref02_Inv.mono _ _
      | exact kinkeepref02_Mul.mono _ _ _
      | exact LeO.none _
      | refine LeO.ite ?_ ?_
      | refine LeO.bind ?_ (fun _ => ?_)
set_option maxHeartbeats 8000000 in
set_option maxRecDepth 100000 in
theorem kinkeeplaw02_Gf256Products.calls (k : Nat) (a0 : Int) (a1 : Int) (r : Bool) (w : World) (h : kinkeeplaw02_Gf256Products.f k a0 a1 = some r) :
    Calls Try.prog 5 #[.int .u8 a0, .int .u8 a1] w fun e w' => e = .returned (.bool r) ∧ Below w.heap.size w w' := by
  have HB := Aside0.mk (Below.refl w.heap.size w)
  have H : ((kinkeeplaw02_awake.f k).bind fun t153 => (if t153 = true then ((gf256_Div.f k a0 a1).bind fun bt154 => ((gf256_Inv.f k a1).bind fun bt156 => ((gf256_Add.f a0 a1).bind fun t158 => (if t158 = (Go.bits .xor .u8 a0 a1) then ((gf256_Mul.f k a0 a1).bind fun t159 => ((kinkeepref02_Mul.f k a0 a1).bind fun t160 => (kinkeeplaw02_Gf256Products.j0 k a0 a1 bt154.1 bt154.2 bt156.1 bt156.2 (t159 != t160)))) else (kinkeeplaw02_Gf256Products.j0 k a0 a1 bt154.1 bt154.2 bt156.1 bt156.2 true))))) else (some false))) = some r := h
  clear h
  replace H := Option.bind_eq_some_iff.mp H
  obtain ⟨t153, A30, H⟩ := H
  replace H : (if t153 = true then ((gf256_Div.f k a0 a1).bind fun bt154 => ((gf256_Inv.f k a1).bind fun bt156 => ((gf256_Add.f a0 a1).bind fun t158 => (if t158 = (Go.bits .xor .u8 a0 a1) then ((gf256_Mul.f k a0 a1).bind fun t159 => ((kinkeepref02_Mul.f k a0 a1).bind fun t160 => (kinkeeplaw02_Gf256Products.j0 k a0 a1 bt154.1 bt154.2 bt156.1 bt156.2 (t159 != t160)))) else (kinkeeplaw02_Gf256Products.j0 k a0 a1 bt154.1 bt154.2 bt156.1 bt156.2 true))))) else (some false)) = some r := H
  have A3 := Aside0.mk A30
  clear A30
  by_cases c4 : t153 = true
  · subst c4
    have H1 : ((gf256_Div.f k a0 a1).bind fun bt154 => ((gf256_Inv.f k a1).bind fun bt156 => ((gf256_Add.f a0 a1).bind fun t158 => (if t158 = (Go.bits .xor .u8 a0 a1) then ((gf256_Mul.f k a0 a1).bind fun t159 => ((kinkeepref02_Mul.f k a0 a1).bind fun t160 => (kinkeeplaw02_Gf256Products.j0 k a0 a1 bt154.1 bt154.2 bt156.1 bt156.2 (t159 != t160)))) else (kinkeeplaw02_Gf256Products.j0 k a0 a1 bt154.1 bt154.2 bt156.1 bt156.2 true))))) = some r := by rw [if_pos rfl] at H; exact H
    clear H
    have H := H1
    clear H1
    replace H := Option.bind_eq_some_iff.mp H
    obtain ⟨⟨t154, t155⟩, A50, H⟩ := H
    replace H : ((gf256_Inv.f k a1).bind fun bt156 => ((gf256_Add.f a0 a1).bind fun t158 => (if t158 = (Go.bits .xor .u8 a0 a1) then ((gf256_Mul.f k a0 a1).bind fun t159 => ((kinkeepref02_Mul.f k a0 a1).bind fun t160 => (kinkeeplaw02_Gf256Products.j0 k a0 a1 t154 t155 bt156.1 bt156.2 (t159 != t160)))) else (kinkeeplaw02_Gf256Products.j0 k a0 a1 t154 t155 bt156.1 bt156.2 true)))) = some r := H
    have A5 := Aside0.mk A50
    clear A50
    replace H := Option.bind_eq_some_iff.mp H
    obtain ⟨⟨t156, t157⟩, A60, H⟩ := H
    replace H : ((gf256_Add.f a0 a1).bind fun t158 => (if t158 = (Go.bits .xor .u8 a0 a1) then ((gf256_Mul.f k a0 a1).bind fun t159 => ((kinkeepref02_Mul.f k a0 a1).bind fun t160 => (kinkeeplaw02_Gf256Products.j0 k a0 a1 t154 t155 t156 t157 (t159 != t160)))) else (kinkeeplaw02_Gf256Products.j0 k a0 a1 t154 t155 t156 t157 true))) = some r := H
    have A6 := Aside0.mk A60
    clear A60
    have HC7 := Aside0.mk H
    clear H
    go_enter Try.func5, Try.ntmps5
    go_upto_region 5 with (first | ((with_reducible refine gate_callee (f := 11) rfl ?_); refine goesL_ (some 9) rfl rfl Try.func11 (by kernel_rfl) rfl #[] rfl (by (try simp only [List.map_toArray, List.map_cons, List.map_nil]); first | done | rfl | (simp only [List.length_drop, List.length_take]; rfl)) ?_; (with_reducible refine (kinkeeplaw02_awake.calls k  true _ A3.out).mono ?_); rintro e w8 ⟨rfl, hb⟩; refine ⟨_, rfl, ?_⟩; have n0_ := Aside0.mk (below_step (by repeat (first | (with_reducible first | exact HB.out | apply below_alloc | apply pw_below_drewN | apply below_drew1) | exact HB.out)) hb); clear HB; have HB := n0_; clear n0_; (try clear hb); (try clear hb2); (try clear hk); (try clear hi)) | ((with_reducible refine gate_callee (f := 16) rfl ?_); refine goesL_ (some 14) rfl rfl Try.func16 (by kernel_rfl) rfl #[.int .u8 a0, .int .u8 a1] rfl (by (try simp only [List.map_toArray, List.map_cons, List.map_nil]); first | done | rfl | (simp only [List.length_drop, List.length_take]; rfl)) ?_; (with_reducible refine (gf256_Div.calls k a0 a1 t154 t155 _ A5.out).mono ?_); rintro e w' ⟨rfl, ⟨nd, rfl⟩⟩; refine ⟨_, rfl, ?_⟩) | ((with_reducible refine gate_callee (f := 17) rfl ?_); refine goesL_ (some 19) rfl rfl Try.func17 (by kernel_rfl) rfl #[.int .u8 a1] rfl (by (try simp only [List.map_toArray, List.map_cons, List.map_nil]); first | done | rfl | (simp only [List.length_drop, List.length_take]; rfl)) ?_; (with_reducible refine (gf256_Inv.calls k a1 t156 t157 _ A6.out).mono ?_); rintro e w' ⟨rfl, ⟨nd, rfl⟩⟩; refine ⟨_, rfl, ?_⟩))
    (try simp only [Act.put, List.setIfInBounds_toArray, List.set_cons_zero, List.set_cons_succ])
    go_cut [37] (fun v37 wc => ∃ (kq : Nat) (x37_6 : Bool), v37 = .bool x37_6 ∧ Aside0 (kinkeeplaw02_Gf256Products.j0 kq a0 a1 t154 t155 t156 t157 x37_6 = some r) ∧ Aside0 (kq ≤ k) ∧ Aside0 (Below w.heap.size w wc))
    case first =>
      have H := HC7.out
      clear HC7
      replace H := Option.bind_eq_some_iff.mp H
      obtain ⟨t158, A90, H⟩ := H
      replace H : (if t158 = (Go.bits .xor .u8 a0 a1) then ((gf256_Mul.f k a0 a1).bind fun t159 => ((kinkeepref02_Mul.f k a0 a1).bind fun t160 => (kinkeeplaw02_Gf256Products.j0 k a0 a1 t154 t155 t156 t157 (t159 != t160)))) else (kinkeeplaw02_Gf256Products.j0 k a0 a1 t154 t155 t156 t157 true)) = some r := H
      have A9 := Aside0.mk A90
      clear A90
      by_cases c10 : t158 = (Go.bits .xor .u8 a0 a1)
      · rw [if_pos c10] at H
        have c10b0 : (t158 == (Go.bits .xor .u8 a0 a1)) = true := beq_iff_eq.mpr c10
        have c10b1 : (t158 != (Go.bits .xor .u8 a0 a1)) = false := bne_eq_false_iff_eq.mpr c10
        clear c10
        (first | rw [c10b0] | (simp only [i64_w, i32_w]; rw [c10b0]) | skip)
        replace H := Option.bind_eq_some_iff.mp H
        obtain ⟨t159, A110, H⟩ := H
        replace H : ((kinkeepref02_Mul.f k a0 a1).bind fun t160 => (kinkeeplaw02_Gf256Products.j0 k a0 a1 t154 t155 t156 t157 (t159 != t160))) = some r := H
        have A11 := Aside0.mk A110
        clear A110
        replace H := Option.bind_eq_some_iff.mp H
        obtain ⟨t160, A120, H⟩ := H
        replace H : (kinkeeplaw02_Gf256Products.j0 k a0 a1 t154 t155 t156 t157 (t159 != t160)) = some r := H
        have A12 := Aside0.mk A120
        clear A120
        have H' := Aside0.mk H
        clear H
        go_wp2_with (first | ((with_reducible refine gate_callee (f := 13) rfl ?_); refine goesL_ (some 24) rfl rfl Try.func13 (by kernel_rfl) rfl #[.int .u8 a0, .int .u8 a1] rfl (by (try simp only [List.map_toArray, List.map_cons, List.map_nil]); first | done | rfl | (simp only [List.length_drop, List.length_take]; rfl)) ?_; (with_reducible refine (gf256_Add.calls a0 a1 t158 _ A9.out).mono ?_); rintro e w' ⟨rfl, ⟨nd, rfl⟩⟩; refine ⟨_, rfl, ?_⟩) | (go_at_call 12; (with_reducible refine (gf256_Mul.calls k a0 a1 t159 _ A11.out).mono ?_); rintro e w' ⟨rfl, ⟨nd, rfl⟩⟩) | (go_at_call 18; (with_reducible refine (kinkeepref02_Mul.calls k a0 a1 t160 _ A12.out).mono ?_); rintro e w' ⟨rfl, ⟨nd, rfl⟩⟩))
        go_meet
        case rel => exact ⟨_, ((t159 != t160)), (by first | rfl | (simp; done) | (simp [*]; done)), H', ⟨by first | omega | exact Nat.le_refl _⟩, ⟨by repeat (first | (with_reducible first | exact HB.out | apply below_alloc | apply pw_below_drewN | apply below_drew1) | exact HB.out)⟩⟩
      · rw [if_neg c10] at H
        have c10b0 : (t158 == (Go.bits .xor .u8 a0 a1)) = false := beq_eq_false_iff_ne.mpr c10
        have c10b1 : (t158 != (Go.bits .xor .u8 a0 a1)) = true := bne_iff_ne.mpr c10
        (first | rw [c10b0] | (simp only [i64_w, i32_w]; rw [c10b0]) | skip)
        have H' := Aside0.mk H
        clear H
        go_wp2_with (first | ((with_reducible refine gate_callee (f := 13) rfl ?_); refine goesL_ (some 24) rfl rfl Try.func13 (by kernel_rfl) rfl #[.int .u8 a0, .int .u8 a1] rfl (by (try simp only [List.map_toArray, List.map_cons, List.map_nil]); first | done | rfl | (simp only [List.length_drop, List.length_take]; rfl)) ?_; (with_reducible refine (gf256_Add.calls a0 a1 t158 _ A9.out).mono ?_); rintro e w' ⟨rfl, ⟨nd, rfl⟩⟩; refine ⟨_, rfl, ?_⟩))
        go_meet
        case rel => exact ⟨_, (true), (by first | rfl | (simp; done) | (simp [*]; done)), H', ⟨by first | omega | exact Nat.le_refl _⟩, ⟨by repeat (first | (with_reducible first | exact HB.out | apply below_alloc | apply pw_below_drewN | apply below_drew1) | exact HB.out)⟩⟩
    case rest =>
      clear HC7
      try clear c1
      try clear p2
      try clear c4
      try clear c5
      try clear c10
      try clear c10b0
      try clear c10b1
      try clear c11
      obtain ⟨kq, x37_6, rfl, HA, HJ6, HB⟩ := hcut
      cases kq with
      | zero => exact absurd HA.out (by simp [kinkeeplaw02_Gf256Products.j0])
      | succ kj6 =>
        have H := HA.out
        clear HA
        simp only [kinkeeplaw02_Gf256Products.j0] at H
        by_cases c13 : x37_6 = true
        · subst c13
          have H1 : (some false) = some r := by rw [if_pos rfl] at H; exact H
          clear H
          have H := H1
          clear H1
          obtain rfl := Option.some.inj H
          go_wp2
          go_ret
          exact ⟨by first | rfl | (simp [errW_none, errW_some] <;> rfl) | (simp [*, errW_none, errW_some] <;> rfl), by repeat (first | (with_reducible first | exact HB.out | apply below_alloc | apply pw_below_drewN | apply below_drew1) | exact HB.out)⟩
        · replace c13 := Bool.eq_false_iff.mpr c13
          subst c13
          have H1 : (if a1 = 0 then (if t155 = 1 then (if t157 = 1 then (if t154 = 0 then (some (t156 == 0)) else (some false)) else (some false)) else (some false)) else (if t155 = 0 then (if t157 = 0 then ((kinkeepref02_Inv.f kj6 a1).bind fun t161 => (if t156 = t161 then ((kinkeepref02_Inv.f kj6 a1).bind fun t162 => ((kinkeepref02_Mul.f kj6 a0 t161).bind fun t163 => (some (t154 == t163)))) else (some false))) else (some false)) else (some false))) = some r := by rw [if_neg (show ¬ (false = true) by decide)] at H; exact H
          clear H
          have H := H1
          clear H1
          by_cases c14 : a1 = 0
          · rw [if_pos c14] at H
            have c14b0 : (a1 == 0) = true := beq_iff_eq.mpr c14
            have c14b1 : (a1 != 0) = false := bne_eq_false_iff_eq.mpr c14
            clear c14
            by_cases c15 : t155 = 1
            · rw [if_pos c15] at H
              have c15b0 : (t155 == 1) = true := beq_iff_eq.mpr c15
              have c15b1 : (t155 != 1) = false := bne_eq_false_iff_eq.mpr c15
              clear c15
              by_cases c16 : t157 = 1
              · rw [if_pos c16] at H
                have c16b0 : (t157 == 1) = true := beq_iff_eq.mpr c16
                have c16b1 : (t157 != 1) = false := bne_eq_false_iff_eq.mpr c16
                clear c16
                by_cases c17 : t154 = 0
                · rw [if_pos c17] at H
                  have c17b0 : (t154 == 0) = true := beq_iff_eq.mpr c17
                  have c17b1 : (t154 != 0) = false := bne_eq_false_iff_eq.mpr c17
                  clear c17
                  obtain rfl := Option.some.inj H
                  go_wp2
                  go_ret
                  exact ⟨by first | rfl | (simp [errW_none, errW_some] <;> rfl) | (simp [*, errW_none, errW_some] <;> rfl), by repeat (first | (with_reducible first | exact HB.out | apply below_alloc | apply pw_below_drewN | apply below_drew1) | exact HB.out)⟩
                · rw [if_neg c17] at H
                  have c17b0 : (t154 == 0) = false := beq_eq_false_iff_ne.mpr c17
                  have c17b1 : (t154 != 0) = true := bne_iff_ne.mpr c17
                  obtain rfl := Option.some.inj H
                  go_wp2
                  go_ret
                  exact ⟨by first | rfl | (simp [errW_none, errW_some] <;> rfl) | (simp [*, errW_none, errW_some] <;> rfl), by repeat (first | (with_reducible first | exact HB.out | apply below_alloc | apply pw_below_drewN | apply below_drew1) | exact HB.out)⟩
              · rw [if_neg c16] at H
                have c16b0 : (t157 == 1) = false := beq_eq_false_iff_ne.mpr c16
                have c16b1 : (t157 != 1) = true := bne_iff_ne.mpr c16
                obtain rfl := Option.some.inj H
                go_wp2
                go_ret
                exact ⟨by first | rfl | (simp [errW_none, errW_some] <;> rfl) | (simp [*, errW_none, errW_some] <;> rfl), by repeat (first | (with_reducible first | exact HB.out | apply below_alloc | apply pw_below_drewN | apply below_drew1) | exact HB.out)⟩
            · rw [if_neg c15] at H
              have c15b0 : (t155 == 1) = false := beq_eq_false_iff_ne.mpr c15
              have c15b1 : (t155 != 1) = true := bne_iff_ne.mpr c15
              obtain rfl := Option.some.inj H
              go_wp2
              go_ret
              exact ⟨by first | rfl | (simp [errW_none, errW_some] <;> rfl) | (simp [*, errW_none, errW_some] <;> rfl), by repeat (first | (with_reducible first | exact HB.out | apply below_alloc | apply pw_below_drewN | apply below_drew1) | exact HB.out)⟩
          · rw [if_neg c14] at H
            have c14b0 : (a1 == 0) = false := beq_eq_false_iff_ne.mpr c14
            have c14b1 : (a1 != 0) = true := bne_iff_ne.mpr c14
            by_cases c18 : t155 = 0
            · rw [if_pos c18] at H
              have c18b0 : (t155 == 0) = true := beq_iff_eq.mpr c18
              have c18b1 : (t155 != 0) = false := bne_eq_false_iff_eq.mpr c18
              clear c18
              by_cases c19 : t157 = 0
              · rw [if_pos c19] at H
                have c19b0 : (t157 == 0) = true := beq_iff_eq.mpr c19
                have c19b1 : (t157 != 0) = false := bne_eq_false_iff_eq.mpr c19
                clear c19
                replace H := Option.bind_eq_some_iff.mp H
                obtain ⟨t161, A200, H⟩ := H
                replace H : (if t156 = t161 then ((kinkeepref02_Inv.f kj6 a1).bind fun t162 => ((kinkeepref02_Mul.f kj6 a0 t161).bind fun t163 => (some (t154 == t163)))) else (some false)) = some r := H
                have A20 := Aside0.mk A200
                clear A200
                by_cases c21 : t156 = t161
                · rw [if_pos c21] at H
                  have c21b0 : (t156 == t161) = true := beq_iff_eq.mpr c21
                  have c21b1 : (t156 != t161) = false := bne_eq_false_iff_eq.mpr c21
                  clear c21
                  replace H := Option.bind_eq_some_iff.mp H
                  obtain ⟨t162, A220, H⟩ := H
                  replace H : ((kinkeepref02_Mul.f kj6 a0 t161).bind fun t163 => (some (t154 == t163))) = some r := H
                  have A22 := Aside0.mk A220
                  clear A220
                  have E_A22 := Option.some.inj (A22.out.symm.trans A20.out)
                  subst t162
                  replace H := Option.bind_eq_some_iff.mp H
                  obtain ⟨t163, A230, H⟩ := H
                  replace H : (some (t154 == t163)) = some r := H
                  have A23 := Aside0.mk A230
                  clear A230
                  obtain rfl := Option.some.inj H
                  go_wp2_with (first | (go_at_call 19; (with_reducible refine (kinkeepref02_Inv.calls kj6 a1 t161 _ A20.out).mono ?_); rintro e w' ⟨rfl, ⟨nd, rfl⟩⟩) | (go_at_call 19; (with_reducible refine (kinkeepref02_Inv.calls kj6 a1 t161 _ A22.out).mono ?_); rintro e w' ⟨rfl, ⟨nd, rfl⟩⟩) | (go_at_call 18; (with_reducible refine (kinkeepref02_Mul.calls kj6 a0 t161 t163 _ A23.out).mono ?_); rintro e w' ⟨rfl, ⟨nd, rfl⟩⟩))
                  go_ret
                  exact ⟨by first | rfl | (simp [errW_none, errW_some] <;> rfl) | (simp [*, errW_none, errW_some] <;> rfl), by repeat (first | (with_reducible first | exact HB.out | apply below_alloc | apply pw_below_drewN | apply below_drew1) | exact HB.out)⟩
                · rw [if_neg c21] at H
                  have c21b0 : (t156 == t161) = false := beq_eq_false_iff_ne.mpr c21
                  have c21b1 : (t156 != t161) = true := bne_iff_ne.mpr c21
                  obtain rfl := Option.some.inj H
                  go_wp2_with (first | (go_at_call 19; (with_reducible refine (kinkeepref02_Inv.calls kj6 a1 t161 _ A20.out).mono ?_); rintro e w' ⟨rfl, ⟨nd, rfl⟩⟩))
                  go_ret
                  exact ⟨by first | rfl | (simp [errW_none, errW_some] <;> rfl) | (simp [*, errW_none, errW_some] <;> rfl), by repeat (first | (with_reducible first | exact HB.out | apply below_alloc | apply pw_below_drewN | apply below_drew1) | exact HB.out)⟩
              · rw [if_neg c19] at H
                have c19b0 : (t157 == 0) = false := beq_eq_false_iff_ne.mpr c19
                have c19b1 : (t157 != 0) = true := bne_iff_ne.mpr c19
                obtain rfl := Option.some.inj H
                go_wp2
                go_ret
                exact ⟨by first | rfl | (simp [errW_none, errW_some] <;> rfl) | (simp [*, errW_none, errW_some] <;> rfl), by repeat (first | (with_reducible first | exact HB.out | apply below_alloc | apply pw_below_drewN | apply below_drew1) | exact HB.out)⟩
            · rw [if_neg c18] at H
              have c18b0 : (t155 == 0) = false := beq_eq_false_iff_ne.mpr c18
              have c18b1 : (t155 != 0) = true := bne_iff_ne.mpr c18
              obtain rfl := Option.some.inj H
              go_wp2
              go_ret
              exact ⟨by first | rfl | (simp [errW_none, errW_some] <;> rfl) | (simp [*, errW_none, errW_some] <;> rfl), by repeat (first | (with_reducible first | exact HB.out | apply below_alloc | apply pw_below_drewN | apply below_drew1) | exact HB.out)⟩
  · replace c4 := Bool.eq_false_iff.mpr c4
    subst c4
    have H1 : (some false) = some r := by rw [if_neg (show ¬ (false = true) by decide)] at H; exact H
    clear H
    have H := H1
    clear H1
    obtain rfl := Option.some.inj H
    go_enter Try.func5, Try.ntmps5
    go_wp2_with (first | ((with_reducible refine gate_callee (f := 11) rfl ?_); refine goesL_ (some 9) rfl rfl Try.func11 (by kernel_rfl) rfl #[] rfl (by (try simp only [List.map_toArray, List.map_cons, List.map_nil]); first | done | rfl | (simp only [List.length_drop, List.length_take]; rfl)) ?_; (with_reducible refine (kinkeeplaw02_awake.calls k  false _ A3.out).mono ?_); rintro e w24 ⟨rfl, hb⟩; refine ⟨_, rfl, ?_⟩; have n0_ := Aside0.mk (below_step (by repeat (first | (with_reducible first | exact HB.out | apply below_alloc | apply pw_below_drewN | apply below_drew1) | exact HB.out)) hb); clear HB; have HB := n0_; clear n0_; (try clear hb); (try clear hb2); (try clear hk); (try clear hi)))
    go_ret
    exact ⟨by first | rfl | (simp [errW_none, errW_some] <;> rfl) | (simp [*, errW_none, errW_some] <;> rfl), by repeat (first | (with_reducible first | exact HB.out | apply below_alloc | apply pw_below_drewN | apply below_drew1) | exact HB.out)⟩

/-- THE ONE PURE STATEMENT of kinkeeplaw02_Gf256Products: yours. -/
def kinkeeplaw02_Gf256Products.Pure : Prop := ∀ (a0 : Int) (a1 : Int), (Lit.int .u8 a0).wf = true → (Lit.int .u8 a1).wf = true → ∃ k, kinkeeplaw02_Gf256Products.f k a0 a1 = some true
theorem kinkeeplaw02_Gf256Products.walk (P : kinkeeplaw02_Gf256Products.Pure) (a0 : Int) (a1 : Int) (w : World) (w0 : (Lit.int .u8 a0).wf = true) (w1 : (Lit.int .u8 a1).wf = true) :
    Calls Try.prog 5 #[.int .u8 a0, .int .u8 a1] w fun e w' => e = .returned (.bool true) ∧ Below w.heap.size w w' := by
  obtain ⟨k, h⟩ := P a0 a1 w0 w1
  refine (kinkeeplaw02_Gf256Products.calls k a0 a1 true w h).mono ?_
  rintro e w' ⟨rfl, hd⟩
  exact ⟨rfl, hd⟩

end Go.Proofs.Ytaagfllcfkjkgaa.PG
