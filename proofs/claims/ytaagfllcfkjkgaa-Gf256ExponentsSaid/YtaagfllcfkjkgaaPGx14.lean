-- Written by a program of this session (a patched copy of the kit's print.py, over given contracts proved by hand). Lean checks it.
import Derived.Test.YtaagfllcfkjkgaaPGx0
import Derived.Test.YtaagfllcfkjkgaaPGx1
import Derived.Test.YtaagfllcfkjkgaaPGx5
import Derived.Test.YtaagfllcfkjkgaaPGx6
import Derived.Test.YtaagfllcfkjkgaaPGx7
namespace Go.Proofs.Ytaagfllcfkjkgaa.PG
open Go.RowKit Go.Proofs.YtaagfllcfkjkgaaW.PrintWords Go.Proofs.YtaagfllcfkjkgaaW.PrintLast Go.Proofs.YtaagfllcfkjkgaaW.PrintMore
attribute [local go_sem] max2_int min2_int max_two min_two max_three min_three max_four min_four   -- for this text's walks alone
set_option linter.unusedVariables false
set_option linter.unusedSimpArgs false

/-! ### kinkeeplaw02_Gf256Exponents: function 9 -/
mutual
def kinkeeplaw02_Gf256Exponents.j0 : Nat → Int → Int → Int → Bool → Option (Bool)
  | 0, _, _, _, _ => none
  | k + 1, x0, x1, x2, x38 => if x38 = true then (some true) else ((gf256_Pow.f k x0 x1).bind fun bt254 => ((gf256_Pow.f k x0 x2).bind fun bt256 => ((gf256_Pow.f k x0 (wrap64 (x1 + x2))).bind fun bt258 => ((gf256_Log.f x0).bind fun bt260 => ((gf256_Order.f k x0).bind fun bt262 => (if bt254.2 = 0 then (if bt256.2 = 0 then (if bt258.2 = 0 then (if bt260.2 = 0 then (if bt262.2 = 0 then (if bt262.1 < 1 then (kinkeeplaw02_Gf256Exponents.j1 k x0 x1 x2 bt254.1 bt256.1 bt258.1 bt260.1 bt262.1 true) else (if bt260.1 < 0 then (kinkeeplaw02_Gf256Exponents.j1 k x0 x1 x2 bt254.1 bt256.1 bt258.1 bt260.1 bt262.1 true) else (kinkeeplaw02_Gf256Exponents.j1 k x0 x1 x2 bt254.1 bt256.1 bt258.1 bt260.1 bt262.1 (decide (bt260.1 > 254))))) else (kinkeeplaw02_Gf256Exponents.j1 k x0 x1 x2 bt254.1 bt256.1 bt258.1 bt260.1 bt262.1 true)) else (kinkeeplaw02_Gf256Exponents.j1 k x0 x1 x2 bt254.1 bt256.1 bt258.1 bt260.1 bt262.1 true)) else (kinkeeplaw02_Gf256Exponents.j1 k x0 x1 x2 bt254.1 bt256.1 bt258.1 bt260.1 bt262.1 true)) else (kinkeeplaw02_Gf256Exponents.j1 k x0 x1 x2 bt254.1 bt256.1 bt258.1 bt260.1 bt262.1 true)) else (kinkeeplaw02_Gf256Exponents.j1 k x0 x1 x2 bt254.1 bt256.1 bt258.1 bt260.1 bt262.1 true)))))))
def kinkeeplaw02_Gf256Exponents.j1 : Nat → Int → Int → Int → Int → Int → Int → Int → Int → Bool → Option (Bool)
  | 0, _, _, _, _, _, _, _, _, _ => none
  | k + 1, x0, x1, x2, x7, x9, x11, x13, x15, x98 => if x98 = true then (some false) else ((gf256_Pow.f k x0 x15).bind fun bt264 => ((gf256_Mul.f k x7 x9).bind fun t266 => (if t266 = x11 then ((gf256_Exp.f k x13).bind fun t267 => (if t267 = x0 then ((gf256_Exp.f k x1).bind fun t268 => ((gf256_Exp.f k x2).bind fun t269 => ((gf256_Mul.f k t268 t269).bind fun t270 => ((gf256_Exp.f k (wrap64 (x1 + x2))).bind fun t271 => (if t270 = t271 then (if bt264.1 = 1 then (if x15 = 0 then (none) else (some (((255 : Int) % x15) == 0))) else (some false)) else (some false)))))) else (some false))) else (some false))))
end
def kinkeeplaw02_Gf256Exponents.f (k : Nat) (a0 : Int) (a1 : Int) (a2 : Int) : Option (Bool) := (kinkeeplaw02_awake.f k).bind fun t253 => (if t253 = true then (if a0 = 0 then (kinkeeplaw02_Gf256Exponents.j0 k a0 a1 a2 true) else (if a1 < (-1000000) then (kinkeeplaw02_Gf256Exponents.j0 k a0 a1 a2 true) else (if a1 > 1000000 then (kinkeeplaw02_Gf256Exponents.j0 k a0 a1 a2 true) else (if a2 < (-1000000) then (kinkeeplaw02_Gf256Exponents.j0 k a0 a1 a2 true) else (kinkeeplaw02_Gf256Exponents.j0 k a0 a1 a2 (decide (a2 > 1000000))))))) else (some false))
theorem kinkeeplaw02_Gf256Exponents.mono_l : ∀ k, (∀ y0 y1 y2 y3, LeO (kinkeeplaw02_Gf256Exponents.j0 k y0 y1 y2 y3) (kinkeeplaw02_Gf256Exponents.j0 (k + 1) y0 y1 y2 y3)) ∧ (∀ y0 y1 y2 y3 y4 y5 y6 y7 y8, LeO (kinkeeplaw02_Gf256Exponents.j1 k y0 y1 y2 y3 y4 y5 y6 y7 y8) (kinkeeplaw02_Gf256Exponents.j1 (k + 1) y0 y1 y2 y3 y4 y5 y6 y7 y8))
  | 0 => ⟨fun _ _ _ _ r h => by simp [kinkeeplaw02_Gf256Exponents.j0] at h, fun _ _ _ _ _ _ _ _ _ r h => by simp [kinkeeplaw02_Gf256Exponents.j1] at h⟩
  | k + 1 => by
    obtain ⟨ih0, ih1⟩ := kinkeeplaw02_Gf256Exponents.mono_l k
    refine ⟨?_, ?_⟩
    · intro y0 y1 y2 y3
      unfold kinkeeplaw02_Gf256Exponents.j0
      repeat' first
      | (with_reducible exact ih0 _ _ _ _)
      | (with_reducible exact ih1 _ _ _ _ _ _ _ _ _)
      | (with_reducible exact gf256_Exp.mono _ _)
      | (with_reducible exact gf256_Mul.mono _ _ _)
      | (with_reducible exact gf256_Order.mono _ _)
      | (with_reducible exact gf256_Pow.mono _ _ _)
      | (with_reducible exact kinkeeplaw02_awake.mono _)
      | (with_reducible exact LeO.refl _)
      | (with_reducible exact LeO.none _)
      | (with_reducible refine LeO.ite ?_ ?_)
      | (with_reducible refine LeO.bind ?_ (fun _ => ?_))
      | exact ih0 _ _ _ _
      | exact ih1 _ _ _ _ _ _ _ _ _
      | exact gf256_Exp.mono _ _
      | exact gf256_Mul.mono _ _ _
      | exact gf256_Order.mono _ _
      | exact gf256_Pow.mono _ _ _
      | exact kinkeeplaw02_awake.mono _
      | exact LeO.none _
      | refine LeO.ite ?_ ?_
      | refine LeO.bind ?_ (fun _ => ?_)
    · intro y0 y1 y2 y3 y4 y5 y6 y7 y8
      unfold kinkeeplaw02_Gf256Exponents.j1
      repeat' first
      | (with_reducible exact ih0 _ _ _ _)
      | (with_reducible exact ih1 _ _ _ _ _ _ _ _ _)
      | (with_reducible exact gf256_Exp.mono _ _)
      | (with_reducible exact gf256_Mul.mono _ _ _)
      | (with_reducible exact gf256_Order.mono _ _)
      | (with_reducible exact gf256_Pow.mono _ _ _)
      | (with_reducible exact kinkeeplaw02_awake.mono _)
      | (with_reducible exact LeO.refl _)
      | (with_reducible exact LeO.none _)
      | (with_reducible refine LeO.ite ?_ ?_)
      | (with_reducible refine LeO.bind ?_ (fun _ => ?_))
      | exact ih0 _ _ _ _
      | exact ih1 _ _ _ _ _ _ _ _ _
      | exact gf256_Exp.mono _ _
      | exact gf256_Mul.mono _ _ _
      | exact gf256_Order.mono _ _
      | exact gf256_Pow.mono _ _ _
      | exact kinkeeplaw02_awake.mono _
      | exact LeO.none _
      | refine LeO.ite ?_ ?_
      | refine LeO.bind ?_ (fun _ => ?_)
theorem kinkeeplaw02_Gf256Exponents.mono : ∀ a0 a1 a2 k, LeO (kinkeeplaw02_Gf256Exponents.f k a0 a1 a2) (kinkeeplaw02_Gf256Exponents.f (k + 1) a0 a1 a2) := by
  intro a0 a1 a2 k
  obtain ⟨ih0, ih1⟩ := kinkeeplaw02_Gf256Exponents.mono_l k
  unfold kinkeeplaw02_Gf256Exponents.f
  repeat' first
      | (with_reducible exact ih0 _ _ _ _)
      | (with_reducible exact ih1 _ _ _ _ _ _ _ _ _)
      | (with_reducible exact gf256_Exp.mono _ _)
      | (with_reducible exact gf256_Mul.mono _ _ _)
      | (with_reducible exact gf256_Order.mono _ _)
      | (with_reducible exact gf256_Pow.mono _ _ _)
      | (with_reducible exact kinkeeplaw02_awake.mono _)
      | (with_reducible exact LeO.refl _)
      | (with_reducible exact LeO.none _)
      | (with_reducible refine LeO.ite ?_ ?_)
      | (with_reducible refine LeO.bind ?_ (fun _ => ?_))
      | exact ih0 _ _ _ _
      | exact ih1 _ _ _ _ _ _ _ _ _
      | exact gf256_Exp.mono _ _
      | exact gf256_Mul.mono _ _ _
      | exact gf256_Order.mono _ _
      | exact gf256_Pow.mono _ _ _
      | exact kinkeeplaw02_awake.mono _
      | exact LeO.none _
      | refine LeO.ite ?_ ?_
      | refine LeO.bind ?_ (fun _ => ?_)
set_option maxHeartbeats 8000000 in
set_option maxRecDepth 100000 in
theorem kinkeeplaw02_Gf256Exponents.calls (k : Nat) (a0 : Int) (a1 : Int) (a2 : Int) (r : Bool) (w : World) (h : kinkeeplaw02_Gf256Exponents.f k a0 a1 a2 = some r) :
    Calls Try.prog 9 #[.int .u8 a0, .int .i64 a1, .int .i64 a2] w fun e w' => e = .returned (.bool r) ∧ Below w.heap.size w w' := by
  have HB := Aside0.mk (Below.refl w.heap.size w)
  have H : ((kinkeeplaw02_awake.f k).bind fun t253 => (if t253 = true then (if a0 = 0 then (kinkeeplaw02_Gf256Exponents.j0 k a0 a1 a2 true) else (if a1 < (-1000000) then (kinkeeplaw02_Gf256Exponents.j0 k a0 a1 a2 true) else (if a1 > 1000000 then (kinkeeplaw02_Gf256Exponents.j0 k a0 a1 a2 true) else (if a2 < (-1000000) then (kinkeeplaw02_Gf256Exponents.j0 k a0 a1 a2 true) else (kinkeeplaw02_Gf256Exponents.j0 k a0 a1 a2 (decide (a2 > 1000000))))))) else (some false))) = some r := h
  clear h
  replace H := Option.bind_eq_some_iff.mp H
  obtain ⟨t253, A40, H⟩ := H
  replace H : (if t253 = true then (if a0 = 0 then (kinkeeplaw02_Gf256Exponents.j0 k a0 a1 a2 true) else (if a1 < (-1000000) then (kinkeeplaw02_Gf256Exponents.j0 k a0 a1 a2 true) else (if a1 > 1000000 then (kinkeeplaw02_Gf256Exponents.j0 k a0 a1 a2 true) else (if a2 < (-1000000) then (kinkeeplaw02_Gf256Exponents.j0 k a0 a1 a2 true) else (kinkeeplaw02_Gf256Exponents.j0 k a0 a1 a2 (decide (a2 > 1000000))))))) else (some false)) = some r := H
  have A4 := Aside0.mk A40
  clear A40
  by_cases c5 : t253 = true
  · subst c5
    have H1 : (if a0 = 0 then (kinkeeplaw02_Gf256Exponents.j0 k a0 a1 a2 true) else (if a1 < (-1000000) then (kinkeeplaw02_Gf256Exponents.j0 k a0 a1 a2 true) else (if a1 > 1000000 then (kinkeeplaw02_Gf256Exponents.j0 k a0 a1 a2 true) else (if a2 < (-1000000) then (kinkeeplaw02_Gf256Exponents.j0 k a0 a1 a2 true) else (kinkeeplaw02_Gf256Exponents.j0 k a0 a1 a2 (decide (a2 > 1000000))))))) = some r := by rw [if_pos rfl] at H; exact H
    clear H
    have H := H1
    clear H1
    have HC6 := Aside0.mk H
    clear H
    go_enter Try.func9, Try.ntmps9
    go_upto_region 3 with (first | ((with_reducible refine gate_callee (f := 11) rfl ?_); refine goesL_ (some 19) rfl rfl Try.func11 (by kernel_rfl) rfl #[] rfl (by (try simp only [List.map_toArray, List.map_cons, List.map_nil]); first | done | rfl | (simp only [List.length_drop, List.length_take]; rfl)) ?_; (with_reducible refine (kinkeeplaw02_awake.calls k  true _ A4.out).mono ?_); rintro e w7 ⟨rfl, hb⟩; refine ⟨_, rfl, ?_⟩; have n0_ := Aside0.mk (below_step (by repeat (first | (with_reducible first | exact HB.out | apply below_alloc | apply pw_below_drewN | apply below_drew1) | exact HB.out)) hb); clear HB; have HB := n0_; clear n0_; (try clear hb); (try clear hb2); (try clear hk); (try clear hi)))
    (try simp only [Act.put, List.setIfInBounds_toArray, List.set_cons_zero, List.set_cons_succ])
    go_cut [38] (fun v38 wc => ∃ (kq : Nat) (x38_5 : Bool), v38 = .bool x38_5 ∧ Aside0 (kinkeeplaw02_Gf256Exponents.j0 kq a0 a1 a2 x38_5 = some r) ∧ Aside0 (kq ≤ k) ∧ Aside0 (Below w.heap.size w wc))
    case first =>
      have H := HC6.out
      clear HC6
      by_cases c8 : a0 = 0
      · rw [if_pos c8] at H
        have c8b0 : (a0 == 0) = true := beq_iff_eq.mpr c8
        have c8b1 : (a0 != 0) = false := bne_eq_false_iff_eq.mpr c8
        clear c8
        (first | rw [c8b0] | (simp only [i64_w, i32_w]; rw [c8b0]) | skip)
        have H' := Aside0.mk H
        clear H
        go_wp2
        go_meet
        case rel => exact ⟨_, (true), (by first | rfl | (simp; done) | (simp [*]; done)), H', ⟨by first | omega | exact Nat.le_refl _⟩, ⟨by repeat (first | (with_reducible first | exact HB.out | apply below_alloc | apply pw_below_drewN | apply below_drew1) | exact HB.out)⟩⟩
      · rw [if_neg c8] at H
        have c8b0 : (a0 == 0) = false := beq_eq_false_iff_ne.mpr c8
        have c8b1 : (a0 != 0) = true := bne_iff_ne.mpr c8
        (first | rw [c8b0] | (simp only [i64_w, i32_w]; rw [c8b0]) | skip)
        by_cases c9 : a1 < (-1000000)
        · rw [if_pos c9] at H
          have c9b0 : decide (a1 < (-1000000)) = true := decide_eq_true c9
          clear c9
          have H' := Aside0.mk H
          clear H
          go_wp2
          go_meet
          case rel => exact ⟨_, (true), (by first | rfl | (simp; done) | (simp [*]; done)), H', ⟨by first | omega | exact Nat.le_refl _⟩, ⟨by repeat (first | (with_reducible first | exact HB.out | apply below_alloc | apply pw_below_drewN | apply below_drew1) | exact HB.out)⟩⟩
        · rw [if_neg c9] at H
          have c9b0 : decide (a1 < (-1000000)) = false := decide_eq_false c9
          clear c9
          by_cases c10 : a1 > 1000000
          · rw [if_pos c10] at H
            have c10b0 : decide (1000000 < a1) = true := decide_eq_true c10
            clear c10
            have H' := Aside0.mk H
            clear H
            go_wp2
            go_meet
            case rel => exact ⟨_, (true), (by first | rfl | (simp; done) | (simp [*]; done)), H', ⟨by first | omega | exact Nat.le_refl _⟩, ⟨by repeat (first | (with_reducible first | exact HB.out | apply below_alloc | apply pw_below_drewN | apply below_drew1) | exact HB.out)⟩⟩
          · rw [if_neg c10] at H
            have c10b0 : decide (1000000 < a1) = false := decide_eq_false c10
            clear c10
            by_cases c11 : a2 < (-1000000)
            · rw [if_pos c11] at H
              have c11b0 : decide (a2 < (-1000000)) = true := decide_eq_true c11
              clear c11
              have H' := Aside0.mk H
              clear H
              go_wp2
              go_meet
              case rel => exact ⟨_, (true), (by first | rfl | (simp; done) | (simp [*]; done)), H', ⟨by first | omega | exact Nat.le_refl _⟩, ⟨by repeat (first | (with_reducible first | exact HB.out | apply below_alloc | apply pw_below_drewN | apply below_drew1) | exact HB.out)⟩⟩
            · rw [if_neg c11] at H
              have c11b0 : decide (a2 < (-1000000)) = false := decide_eq_false c11
              clear c11
              have H' := Aside0.mk H
              clear H
              go_wp2
              go_meet
              case rel => exact ⟨_, (decide (a2 > 1000000)), (by first | rfl | (simp; done) | (simp [*]; done)), H', ⟨by first | omega | exact Nat.le_refl _⟩, ⟨by repeat (first | (with_reducible first | exact HB.out | apply below_alloc | apply pw_below_drewN | apply below_drew1) | exact HB.out)⟩⟩
    case rest =>
      clear HC6
      try clear c1
      try clear p2
      try clear c5
      try clear c8
      try clear c8b0
      try clear c8b1
      try clear c9
      try clear c9b0
      try clear c10
      try clear c10b0
      try clear c11
      try clear c11b0
      obtain ⟨kq, x38_5, rfl, HA, HJ5, HB⟩ := hcut
      cases kq with
      | zero => exact absurd HA.out (by simp [kinkeeplaw02_Gf256Exponents.j0])
      | succ kj5 =>
        have H := HA.out
        clear HA
        simp only [kinkeeplaw02_Gf256Exponents.j0] at H
        by_cases c12 : x38_5 = true
        · subst c12
          have H1 : (some true) = some r := by rw [if_pos rfl] at H; exact H
          clear H
          have H := H1
          clear H1
          obtain rfl := Option.some.inj H
          go_wp2
          go_ret
          exact ⟨by first | rfl | (simp [errW_none, errW_some] <;> rfl) | (simp [*, errW_none, errW_some] <;> rfl), by repeat (first | (with_reducible first | exact HB.out | apply below_alloc | apply pw_below_drewN | apply below_drew1) | exact HB.out)⟩
        · replace c12 := Bool.eq_false_iff.mpr c12
          subst c12
          have H1 : ((gf256_Pow.f kj5 a0 a1).bind fun bt254 => ((gf256_Pow.f kj5 a0 a2).bind fun bt256 => ((gf256_Pow.f kj5 a0 (wrap64 (a1 + a2))).bind fun bt258 => ((gf256_Log.f a0).bind fun bt260 => ((gf256_Order.f kj5 a0).bind fun bt262 => (if bt254.2 = 0 then (if bt256.2 = 0 then (if bt258.2 = 0 then (if bt260.2 = 0 then (if bt262.2 = 0 then (if bt262.1 < 1 then (kinkeeplaw02_Gf256Exponents.j1 kj5 a0 a1 a2 bt254.1 bt256.1 bt258.1 bt260.1 bt262.1 true) else (if bt260.1 < 0 then (kinkeeplaw02_Gf256Exponents.j1 kj5 a0 a1 a2 bt254.1 bt256.1 bt258.1 bt260.1 bt262.1 true) else (kinkeeplaw02_Gf256Exponents.j1 kj5 a0 a1 a2 bt254.1 bt256.1 bt258.1 bt260.1 bt262.1 (decide (bt260.1 > 254))))) else (kinkeeplaw02_Gf256Exponents.j1 kj5 a0 a1 a2 bt254.1 bt256.1 bt258.1 bt260.1 bt262.1 true)) else (kinkeeplaw02_Gf256Exponents.j1 kj5 a0 a1 a2 bt254.1 bt256.1 bt258.1 bt260.1 bt262.1 true)) else (kinkeeplaw02_Gf256Exponents.j1 kj5 a0 a1 a2 bt254.1 bt256.1 bt258.1 bt260.1 bt262.1 true)) else (kinkeeplaw02_Gf256Exponents.j1 kj5 a0 a1 a2 bt254.1 bt256.1 bt258.1 bt260.1 bt262.1 true)) else (kinkeeplaw02_Gf256Exponents.j1 kj5 a0 a1 a2 bt254.1 bt256.1 bt258.1 bt260.1 bt262.1 true))))))) = some r := by rw [if_neg (show ¬ (false = true) by decide)] at H; exact H
          clear H
          have H := H1
          clear H1
          replace H := Option.bind_eq_some_iff.mp H
          obtain ⟨⟨t254, t255⟩, A130, H⟩ := H
          replace H : ((gf256_Pow.f kj5 a0 a2).bind fun bt256 => ((gf256_Pow.f kj5 a0 (wrap64 (a1 + a2))).bind fun bt258 => ((gf256_Log.f a0).bind fun bt260 => ((gf256_Order.f kj5 a0).bind fun bt262 => (if t255 = 0 then (if bt256.2 = 0 then (if bt258.2 = 0 then (if bt260.2 = 0 then (if bt262.2 = 0 then (if bt262.1 < 1 then (kinkeeplaw02_Gf256Exponents.j1 kj5 a0 a1 a2 t254 bt256.1 bt258.1 bt260.1 bt262.1 true) else (if bt260.1 < 0 then (kinkeeplaw02_Gf256Exponents.j1 kj5 a0 a1 a2 t254 bt256.1 bt258.1 bt260.1 bt262.1 true) else (kinkeeplaw02_Gf256Exponents.j1 kj5 a0 a1 a2 t254 bt256.1 bt258.1 bt260.1 bt262.1 (decide (bt260.1 > 254))))) else (kinkeeplaw02_Gf256Exponents.j1 kj5 a0 a1 a2 t254 bt256.1 bt258.1 bt260.1 bt262.1 true)) else (kinkeeplaw02_Gf256Exponents.j1 kj5 a0 a1 a2 t254 bt256.1 bt258.1 bt260.1 bt262.1 true)) else (kinkeeplaw02_Gf256Exponents.j1 kj5 a0 a1 a2 t254 bt256.1 bt258.1 bt260.1 bt262.1 true)) else (kinkeeplaw02_Gf256Exponents.j1 kj5 a0 a1 a2 t254 bt256.1 bt258.1 bt260.1 bt262.1 true)) else (kinkeeplaw02_Gf256Exponents.j1 kj5 a0 a1 a2 t254 bt256.1 bt258.1 bt260.1 bt262.1 true)))))) = some r := H
          have A13 := Aside0.mk A130
          clear A130
          replace H := Option.bind_eq_some_iff.mp H
          obtain ⟨⟨t256, t257⟩, A140, H⟩ := H
          replace H : ((gf256_Pow.f kj5 a0 (wrap64 (a1 + a2))).bind fun bt258 => ((gf256_Log.f a0).bind fun bt260 => ((gf256_Order.f kj5 a0).bind fun bt262 => (if t255 = 0 then (if t257 = 0 then (if bt258.2 = 0 then (if bt260.2 = 0 then (if bt262.2 = 0 then (if bt262.1 < 1 then (kinkeeplaw02_Gf256Exponents.j1 kj5 a0 a1 a2 t254 t256 bt258.1 bt260.1 bt262.1 true) else (if bt260.1 < 0 then (kinkeeplaw02_Gf256Exponents.j1 kj5 a0 a1 a2 t254 t256 bt258.1 bt260.1 bt262.1 true) else (kinkeeplaw02_Gf256Exponents.j1 kj5 a0 a1 a2 t254 t256 bt258.1 bt260.1 bt262.1 (decide (bt260.1 > 254))))) else (kinkeeplaw02_Gf256Exponents.j1 kj5 a0 a1 a2 t254 t256 bt258.1 bt260.1 bt262.1 true)) else (kinkeeplaw02_Gf256Exponents.j1 kj5 a0 a1 a2 t254 t256 bt258.1 bt260.1 bt262.1 true)) else (kinkeeplaw02_Gf256Exponents.j1 kj5 a0 a1 a2 t254 t256 bt258.1 bt260.1 bt262.1 true)) else (kinkeeplaw02_Gf256Exponents.j1 kj5 a0 a1 a2 t254 t256 bt258.1 bt260.1 bt262.1 true)) else (kinkeeplaw02_Gf256Exponents.j1 kj5 a0 a1 a2 t254 t256 bt258.1 bt260.1 bt262.1 true))))) = some r := H
          have A14 := Aside0.mk A140
          clear A140
          replace H := Option.bind_eq_some_iff.mp H
          obtain ⟨⟨t258, t259⟩, A150, H⟩ := H
          replace H : ((gf256_Log.f a0).bind fun bt260 => ((gf256_Order.f kj5 a0).bind fun bt262 => (if t255 = 0 then (if t257 = 0 then (if t259 = 0 then (if bt260.2 = 0 then (if bt262.2 = 0 then (if bt262.1 < 1 then (kinkeeplaw02_Gf256Exponents.j1 kj5 a0 a1 a2 t254 t256 t258 bt260.1 bt262.1 true) else (if bt260.1 < 0 then (kinkeeplaw02_Gf256Exponents.j1 kj5 a0 a1 a2 t254 t256 t258 bt260.1 bt262.1 true) else (kinkeeplaw02_Gf256Exponents.j1 kj5 a0 a1 a2 t254 t256 t258 bt260.1 bt262.1 (decide (bt260.1 > 254))))) else (kinkeeplaw02_Gf256Exponents.j1 kj5 a0 a1 a2 t254 t256 t258 bt260.1 bt262.1 true)) else (kinkeeplaw02_Gf256Exponents.j1 kj5 a0 a1 a2 t254 t256 t258 bt260.1 bt262.1 true)) else (kinkeeplaw02_Gf256Exponents.j1 kj5 a0 a1 a2 t254 t256 t258 bt260.1 bt262.1 true)) else (kinkeeplaw02_Gf256Exponents.j1 kj5 a0 a1 a2 t254 t256 t258 bt260.1 bt262.1 true)) else (kinkeeplaw02_Gf256Exponents.j1 kj5 a0 a1 a2 t254 t256 t258 bt260.1 bt262.1 true)))) = some r := H
          have A15 := Aside0.mk A150
          clear A150
          replace H := Option.bind_eq_some_iff.mp H
          obtain ⟨⟨t260, t261⟩, A160, H⟩ := H
          replace H : ((gf256_Order.f kj5 a0).bind fun bt262 => (if t255 = 0 then (if t257 = 0 then (if t259 = 0 then (if t261 = 0 then (if bt262.2 = 0 then (if bt262.1 < 1 then (kinkeeplaw02_Gf256Exponents.j1 kj5 a0 a1 a2 t254 t256 t258 t260 bt262.1 true) else (if t260 < 0 then (kinkeeplaw02_Gf256Exponents.j1 kj5 a0 a1 a2 t254 t256 t258 t260 bt262.1 true) else (kinkeeplaw02_Gf256Exponents.j1 kj5 a0 a1 a2 t254 t256 t258 t260 bt262.1 (decide (t260 > 254))))) else (kinkeeplaw02_Gf256Exponents.j1 kj5 a0 a1 a2 t254 t256 t258 t260 bt262.1 true)) else (kinkeeplaw02_Gf256Exponents.j1 kj5 a0 a1 a2 t254 t256 t258 t260 bt262.1 true)) else (kinkeeplaw02_Gf256Exponents.j1 kj5 a0 a1 a2 t254 t256 t258 t260 bt262.1 true)) else (kinkeeplaw02_Gf256Exponents.j1 kj5 a0 a1 a2 t254 t256 t258 t260 bt262.1 true)) else (kinkeeplaw02_Gf256Exponents.j1 kj5 a0 a1 a2 t254 t256 t258 t260 bt262.1 true))) = some r := H
          have A16 := Aside0.mk A160
          clear A160
          replace H := Option.bind_eq_some_iff.mp H
          obtain ⟨⟨t262, t263⟩, A170, H⟩ := H
          replace H : (if t255 = 0 then (if t257 = 0 then (if t259 = 0 then (if t261 = 0 then (if t263 = 0 then (if t262 < 1 then (kinkeeplaw02_Gf256Exponents.j1 kj5 a0 a1 a2 t254 t256 t258 t260 t262 true) else (if t260 < 0 then (kinkeeplaw02_Gf256Exponents.j1 kj5 a0 a1 a2 t254 t256 t258 t260 t262 true) else (kinkeeplaw02_Gf256Exponents.j1 kj5 a0 a1 a2 t254 t256 t258 t260 t262 (decide (t260 > 254))))) else (kinkeeplaw02_Gf256Exponents.j1 kj5 a0 a1 a2 t254 t256 t258 t260 t262 true)) else (kinkeeplaw02_Gf256Exponents.j1 kj5 a0 a1 a2 t254 t256 t258 t260 t262 true)) else (kinkeeplaw02_Gf256Exponents.j1 kj5 a0 a1 a2 t254 t256 t258 t260 t262 true)) else (kinkeeplaw02_Gf256Exponents.j1 kj5 a0 a1 a2 t254 t256 t258 t260 t262 true)) else (kinkeeplaw02_Gf256Exponents.j1 kj5 a0 a1 a2 t254 t256 t258 t260 t262 true)) = some r := H
          have A17 := Aside0.mk A170
          clear A170
          have HC18 := Aside0.mk H
          clear H
          go_upto_region 10 with (first | ((with_reducible refine gate_callee (f := 14) rfl ?_); refine goesL_ (some 42) rfl rfl Try.func14 (by kernel_rfl) rfl #[.int .u8 a0, .int .i64 a1] rfl (by (try simp only [List.map_toArray, List.map_cons, List.map_nil]); first | done | rfl | (simp only [List.length_drop, List.length_take]; rfl)) ?_; (with_reducible refine (gf256_Pow.calls kj5 a0 a1 t254 t255 _ A13.out).mono ?_); rintro e w' ⟨rfl, ⟨nd, rfl⟩⟩; refine ⟨_, rfl, ?_⟩) | ((with_reducible refine gate_callee (f := 14) rfl ?_); refine goesL_ (some 48) rfl rfl Try.func14 (by kernel_rfl) rfl #[.int .u8 a0, .int .i64 a2] rfl (by (try simp only [List.map_toArray, List.map_cons, List.map_nil]); first | done | rfl | (simp only [List.length_drop, List.length_take]; rfl)) ?_; (with_reducible refine (gf256_Pow.calls kj5 a0 a2 t256 t257 _ A14.out).mono ?_); rintro e w' ⟨rfl, ⟨nd, rfl⟩⟩; refine ⟨_, rfl, ?_⟩) | ((with_reducible refine gate_callee (f := 14) rfl ?_); refine goesL_ (some 56) rfl rfl Try.func14 (by kernel_rfl) rfl #[.int .u8 a0, .int .i64 (wrap64 (a1 + a2))] rfl (by (try simp only [List.map_toArray, List.map_cons, List.map_nil]); first | done | rfl | (simp only [List.length_drop, List.length_take]; rfl)) ?_; (with_reducible refine (gf256_Pow.calls kj5 a0 (wrap64 (a1 + a2)) t258 t259 _ A15.out).mono ?_); rintro e w' ⟨rfl, ⟨nd, rfl⟩⟩; refine ⟨_, rfl, ?_⟩) | ((with_reducible refine gate_callee (f := 26) rfl ?_); refine goesL_ (some 61) rfl rfl Try.func26 (by kernel_rfl) rfl #[.int .u8 a0] rfl (by (try simp only [List.map_toArray, List.map_cons, List.map_nil]); first | done | rfl | (simp only [List.length_drop, List.length_take]; rfl)) ?_; (with_reducible refine (gf256_Log.calls a0 t260 t261 _ A16.out).mono ?_); rintro e w19 ⟨rfl, hb⟩; refine ⟨_, rfl, ?_⟩; have n0_ := Aside0.mk (below_step (by repeat (first | (with_reducible first | exact HB.out | apply below_alloc | apply pw_below_drewN | apply below_drew1) | exact HB.out)) hb); clear HB; have HB := n0_; clear n0_; (try clear hb); (try clear hb2); (try clear hk); (try clear hi)) | ((with_reducible refine gate_callee (f := 27) rfl ?_); refine goesL_ (some 66) rfl rfl Try.func27 (by kernel_rfl) rfl #[.int .u8 a0] rfl (by (try simp only [List.map_toArray, List.map_cons, List.map_nil]); first | done | rfl | (simp only [List.length_drop, List.length_take]; rfl)) ?_; (with_reducible refine (gf256_Order.calls kj5 a0 t262 t263 _ A17.out).mono ?_); rintro e w20 ⟨rfl, hb⟩; refine ⟨_, rfl, ?_⟩; have n0_ := Aside0.mk (below_step (by repeat (first | (with_reducible first | exact HB.out | apply below_alloc | apply pw_below_drewN | apply below_drew1) | exact HB.out)) hb); clear HB; have HB := n0_; clear n0_; (try clear hb); (try clear hb2); (try clear hk); (try clear hi)))
          (try simp only [Act.put, List.setIfInBounds_toArray, List.set_cons_zero, List.set_cons_succ])
          go_cut [98] (fun v98 wc => ∃ (kq : Nat) (x98_17 : Bool), v98 = .bool x98_17 ∧ Aside0 (kinkeeplaw02_Gf256Exponents.j1 kq a0 a1 a2 t254 t256 t258 t260 t262 x98_17 = some r) ∧ Aside0 (kq ≤ kj5) ∧ Aside0 (Below w.heap.size w wc))
          case first =>
            have H := HC18.out
            clear HC18
            by_cases c21 : t255 = 0
            · rw [if_pos c21] at H
              have c21b0 : (t255 == 0) = true := beq_iff_eq.mpr c21
              have c21b1 : (t255 != 0) = false := bne_eq_false_iff_eq.mpr c21
              clear c21
              (first | rw [c21b0] | (simp only [i64_w, i32_w]; rw [c21b0]) | skip)
              by_cases c22 : t257 = 0
              · rw [if_pos c22] at H
                have c22b0 : (t257 == 0) = true := beq_iff_eq.mpr c22
                have c22b1 : (t257 != 0) = false := bne_eq_false_iff_eq.mpr c22
                clear c22
                by_cases c23 : t259 = 0
                · rw [if_pos c23] at H
                  have c23b0 : (t259 == 0) = true := beq_iff_eq.mpr c23
                  have c23b1 : (t259 != 0) = false := bne_eq_false_iff_eq.mpr c23
                  clear c23
                  by_cases c24 : t261 = 0
                  · rw [if_pos c24] at H
                    have c24b0 : (t261 == 0) = true := beq_iff_eq.mpr c24
                    have c24b1 : (t261 != 0) = false := bne_eq_false_iff_eq.mpr c24
                    clear c24
                    by_cases c25 : t263 = 0
                    · rw [if_pos c25] at H
                      have c25b0 : (t263 == 0) = true := beq_iff_eq.mpr c25
                      have c25b1 : (t263 != 0) = false := bne_eq_false_iff_eq.mpr c25
                      clear c25
                      by_cases c26 : t262 < 1
                      · rw [if_pos c26] at H
                        have c26b0 : decide (t262 < 1) = true := decide_eq_true c26
                        clear c26
                        have H' := Aside0.mk H
                        clear H
                        go_wp2
                        go_meet
                        case rel => exact ⟨_, (true), (by first | rfl | (simp; done) | (simp [*]; done)), H', ⟨by have := HJ5.out; first | omega | exact Nat.le_refl _⟩, ⟨by repeat (first | (with_reducible first | exact HB.out | apply below_alloc | apply pw_below_drewN | apply below_drew1) | exact HB.out)⟩⟩
                      · rw [if_neg c26] at H
                        have c26b0 : decide (t262 < 1) = false := decide_eq_false c26
                        clear c26
                        by_cases c27 : t260 < 0
                        · rw [if_pos c27] at H
                          have c27b0 : decide (t260 < 0) = true := decide_eq_true c27
                          clear c27
                          have H' := Aside0.mk H
                          clear H
                          go_wp2
                          go_meet
                          case rel => exact ⟨_, (true), (by first | rfl | (simp; done) | (simp [*]; done)), H', ⟨by have := HJ5.out; first | omega | exact Nat.le_refl _⟩, ⟨by repeat (first | (with_reducible first | exact HB.out | apply below_alloc | apply pw_below_drewN | apply below_drew1) | exact HB.out)⟩⟩
                        · rw [if_neg c27] at H
                          have c27b0 : decide (t260 < 0) = false := decide_eq_false c27
                          clear c27
                          have H' := Aside0.mk H
                          clear H
                          go_wp2
                          go_meet
                          case rel => exact ⟨_, (decide (t260 > 254)), (by first | rfl | (simp; done) | (simp [*]; done)), H', ⟨by have := HJ5.out; first | omega | exact Nat.le_refl _⟩, ⟨by repeat (first | (with_reducible first | exact HB.out | apply below_alloc | apply pw_below_drewN | apply below_drew1) | exact HB.out)⟩⟩
                    · rw [if_neg c25] at H
                      have c25b0 : (t263 == 0) = false := beq_eq_false_iff_ne.mpr c25
                      have c25b1 : (t263 != 0) = true := bne_iff_ne.mpr c25
                      have H' := Aside0.mk H
                      clear H
                      go_wp2
                      go_meet
                      case rel => exact ⟨_, (true), (by first | rfl | (simp; done) | (simp [*]; done)), H', ⟨by have := HJ5.out; first | omega | exact Nat.le_refl _⟩, ⟨by repeat (first | (with_reducible first | exact HB.out | apply below_alloc | apply pw_below_drewN | apply below_drew1) | exact HB.out)⟩⟩
                  · rw [if_neg c24] at H
                    have c24b0 : (t261 == 0) = false := beq_eq_false_iff_ne.mpr c24
                    have c24b1 : (t261 != 0) = true := bne_iff_ne.mpr c24
                    have H' := Aside0.mk H
                    clear H
                    go_wp2
                    go_meet
                    case rel => exact ⟨_, (true), (by first | rfl | (simp; done) | (simp [*]; done)), H', ⟨by have := HJ5.out; first | omega | exact Nat.le_refl _⟩, ⟨by repeat (first | (with_reducible first | exact HB.out | apply below_alloc | apply pw_below_drewN | apply below_drew1) | exact HB.out)⟩⟩
                · rw [if_neg c23] at H
                  have c23b0 : (t259 == 0) = false := beq_eq_false_iff_ne.mpr c23
                  have c23b1 : (t259 != 0) = true := bne_iff_ne.mpr c23
                  have H' := Aside0.mk H
                  clear H
                  go_wp2
                  go_meet
                  case rel => exact ⟨_, (true), (by first | rfl | (simp; done) | (simp [*]; done)), H', ⟨by have := HJ5.out; first | omega | exact Nat.le_refl _⟩, ⟨by repeat (first | (with_reducible first | exact HB.out | apply below_alloc | apply pw_below_drewN | apply below_drew1) | exact HB.out)⟩⟩
              · rw [if_neg c22] at H
                have c22b0 : (t257 == 0) = false := beq_eq_false_iff_ne.mpr c22
                have c22b1 : (t257 != 0) = true := bne_iff_ne.mpr c22
                have H' := Aside0.mk H
                clear H
                go_wp2
                go_meet
                case rel => exact ⟨_, (true), (by first | rfl | (simp; done) | (simp [*]; done)), H', ⟨by have := HJ5.out; first | omega | exact Nat.le_refl _⟩, ⟨by repeat (first | (with_reducible first | exact HB.out | apply below_alloc | apply pw_below_drewN | apply below_drew1) | exact HB.out)⟩⟩
            · rw [if_neg c21] at H
              have c21b0 : (t255 == 0) = false := beq_eq_false_iff_ne.mpr c21
              have c21b1 : (t255 != 0) = true := bne_iff_ne.mpr c21
              (first | rw [c21b0] | (simp only [i64_w, i32_w]; rw [c21b0]) | skip)
              have H' := Aside0.mk H
              clear H
              go_wp2
              go_meet
              case rel => exact ⟨_, (true), (by first | rfl | (simp; done) | (simp [*]; done)), H', ⟨by have := HJ5.out; first | omega | exact Nat.le_refl _⟩, ⟨by repeat (first | (with_reducible first | exact HB.out | apply below_alloc | apply pw_below_drewN | apply below_drew1) | exact HB.out)⟩⟩
          case rest =>
            clear HC18
            try clear c1
            try clear c2
            try clear p2
            try clear c5
            try clear p6
            try clear c8
            try clear c8b0
            try clear c8b1
            try clear c9
            try clear c9b0
            try clear c10
            try clear c10b0
            try clear c11
            try clear c11b0
            try clear c12
            try clear c14
            try clear c21
            try clear c21b0
            try clear c21b1
            try clear c22
            try clear c22b0
            try clear c22b1
            try clear c23
            try clear c23b0
            try clear c23b1
            try clear c24
            try clear c24b0
            try clear c24b1
            try clear c25
            try clear c25b0
            try clear c25b1
            try clear c26
            try clear c26b0
            try clear c27
            try clear c27b0
            try clear p2
            obtain ⟨kq, x98_17, rfl, HA, HJ17, HB⟩ := hcut
            cases kq with
            | zero => exact absurd HA.out (by simp [kinkeeplaw02_Gf256Exponents.j1])
            | succ kj17 =>
              have H := HA.out
              clear HA
              simp only [kinkeeplaw02_Gf256Exponents.j1] at H
              by_cases c28 : x98_17 = true
              · subst c28
                have H1 : (some false) = some r := by rw [if_pos rfl] at H; exact H
                clear H
                have H := H1
                clear H1
                obtain rfl := Option.some.inj H
                go_wp2
                go_ret
                exact ⟨by first | rfl | (simp [errW_none, errW_some] <;> rfl) | (simp [*, errW_none, errW_some] <;> rfl), by repeat (first | (with_reducible first | exact HB.out | apply below_alloc | apply pw_below_drewN | apply below_drew1) | exact HB.out)⟩
              · replace c28 := Bool.eq_false_iff.mpr c28
                subst c28
                have H1 : ((gf256_Pow.f kj17 a0 t262).bind fun bt264 => ((gf256_Mul.f kj17 t254 t256).bind fun t266 => (if t266 = t258 then ((gf256_Exp.f kj17 t260).bind fun t267 => (if t267 = a0 then ((gf256_Exp.f kj17 a1).bind fun t268 => ((gf256_Exp.f kj17 a2).bind fun t269 => ((gf256_Mul.f kj17 t268 t269).bind fun t270 => ((gf256_Exp.f kj17 (wrap64 (a1 + a2))).bind fun t271 => (if t270 = t271 then (if bt264.1 = 1 then (if t262 = 0 then (none) else (some (((255 : Int) % t262) == 0))) else (some false)) else (some false)))))) else (some false))) else (some false)))) = some r := by rw [if_neg (show ¬ (false = true) by decide)] at H; exact H
                clear H
                have H := H1
                clear H1
                replace H := Option.bind_eq_some_iff.mp H
                obtain ⟨⟨t264, t265⟩, A290, H⟩ := H
                replace H : ((gf256_Mul.f kj17 t254 t256).bind fun t266 => (if t266 = t258 then ((gf256_Exp.f kj17 t260).bind fun t267 => (if t267 = a0 then ((gf256_Exp.f kj17 a1).bind fun t268 => ((gf256_Exp.f kj17 a2).bind fun t269 => ((gf256_Mul.f kj17 t268 t269).bind fun t270 => ((gf256_Exp.f kj17 (wrap64 (a1 + a2))).bind fun t271 => (if t270 = t271 then (if t264 = 1 then (if t262 = 0 then (none) else (some (((255 : Int) % t262) == 0))) else (some false)) else (some false)))))) else (some false))) else (some false))) = some r := H
                have A29 := Aside0.mk A290
                clear A290
                replace H := Option.bind_eq_some_iff.mp H
                obtain ⟨t266, A300, H⟩ := H
                replace H : (if t266 = t258 then ((gf256_Exp.f kj17 t260).bind fun t267 => (if t267 = a0 then ((gf256_Exp.f kj17 a1).bind fun t268 => ((gf256_Exp.f kj17 a2).bind fun t269 => ((gf256_Mul.f kj17 t268 t269).bind fun t270 => ((gf256_Exp.f kj17 (wrap64 (a1 + a2))).bind fun t271 => (if t270 = t271 then (if t264 = 1 then (if t262 = 0 then (none) else (some (((255 : Int) % t262) == 0))) else (some false)) else (some false)))))) else (some false))) else (some false)) = some r := H
                have A30 := Aside0.mk A300
                clear A300
                by_cases c31 : t266 = t258
                · rw [if_pos c31] at H
                  have c31b0 : (t266 == t258) = true := beq_iff_eq.mpr c31
                  have c31b1 : (t266 != t258) = false := bne_eq_false_iff_eq.mpr c31
                  clear c31
                  replace H := Option.bind_eq_some_iff.mp H
                  obtain ⟨t267, A320, H⟩ := H
                  replace H : (if t267 = a0 then ((gf256_Exp.f kj17 a1).bind fun t268 => ((gf256_Exp.f kj17 a2).bind fun t269 => ((gf256_Mul.f kj17 t268 t269).bind fun t270 => ((gf256_Exp.f kj17 (wrap64 (a1 + a2))).bind fun t271 => (if t270 = t271 then (if t264 = 1 then (if t262 = 0 then (none) else (some (((255 : Int) % t262) == 0))) else (some false)) else (some false)))))) else (some false)) = some r := H
                  have A32 := Aside0.mk A320
                  clear A320
                  by_cases c33 : t267 = a0
                  · rw [if_pos c33] at H
                    have c33b0 : (t267 == a0) = true := beq_iff_eq.mpr c33
                    have c33b1 : (t267 != a0) = false := bne_eq_false_iff_eq.mpr c33
                    clear c33
                    replace H := Option.bind_eq_some_iff.mp H
                    obtain ⟨t268, A340, H⟩ := H
                    replace H : ((gf256_Exp.f kj17 a2).bind fun t269 => ((gf256_Mul.f kj17 t268 t269).bind fun t270 => ((gf256_Exp.f kj17 (wrap64 (a1 + a2))).bind fun t271 => (if t270 = t271 then (if t264 = 1 then (if t262 = 0 then (none) else (some (((255 : Int) % t262) == 0))) else (some false)) else (some false))))) = some r := H
                    have A34 := Aside0.mk A340
                    clear A340
                    replace H := Option.bind_eq_some_iff.mp H
                    obtain ⟨t269, A350, H⟩ := H
                    replace H : ((gf256_Mul.f kj17 t268 t269).bind fun t270 => ((gf256_Exp.f kj17 (wrap64 (a1 + a2))).bind fun t271 => (if t270 = t271 then (if t264 = 1 then (if t262 = 0 then (none) else (some (((255 : Int) % t262) == 0))) else (some false)) else (some false)))) = some r := H
                    have A35 := Aside0.mk A350
                    clear A350
                    replace H := Option.bind_eq_some_iff.mp H
                    obtain ⟨t270, A360, H⟩ := H
                    replace H : ((gf256_Exp.f kj17 (wrap64 (a1 + a2))).bind fun t271 => (if t270 = t271 then (if t264 = 1 then (if t262 = 0 then (none) else (some (((255 : Int) % t262) == 0))) else (some false)) else (some false))) = some r := H
                    have A36 := Aside0.mk A360
                    clear A360
                    replace H := Option.bind_eq_some_iff.mp H
                    obtain ⟨t271, A370, H⟩ := H
                    replace H : (if t270 = t271 then (if t264 = 1 then (if t262 = 0 then (none) else (some (((255 : Int) % t262) == 0))) else (some false)) else (some false)) = some r := H
                    have A37 := Aside0.mk A370
                    clear A370
                    by_cases c38 : t270 = t271
                    · rw [if_pos c38] at H
                      have c38b0 : (t270 == t271) = true := beq_iff_eq.mpr c38
                      have c38b1 : (t270 != t271) = false := bne_eq_false_iff_eq.mpr c38
                      clear c38
                      by_cases c39 : t264 = 1
                      · rw [if_pos c39] at H
                        have c39b0 : (t264 == 1) = true := beq_iff_eq.mpr c39
                        have c39b1 : (t264 != 1) = false := bne_eq_false_iff_eq.mpr c39
                        clear c39
                        by_cases c40 : t262 = 0
                        · rw [if_pos c40] at H
                          exact absurd H (by simp)
                        · rw [if_neg c40] at H
                          have c40b0 : (t262 == 0) = false := beq_eq_false_iff_ne.mpr c40
                          have c40b1 : (t262 != 0) = true := bne_iff_ne.mpr c40
                          obtain rfl := Option.some.inj H
                          go_wp2_with (first | ((with_reducible refine gate_callee (f := 14) rfl ?_); refine goesL_ (some 102) rfl rfl Try.func14 (by kernel_rfl) rfl #[.int .u8 a0, .int .i64 t262] rfl (by (try simp only [List.map_toArray, List.map_cons, List.map_nil]); first | done | rfl | (simp only [List.length_drop, List.length_take]; rfl)) ?_; (with_reducible refine (gf256_Pow.calls kj17 a0 t262 t264 t265 _ A29.out).mono ?_); rintro e w' ⟨rfl, ⟨nd, rfl⟩⟩; refine ⟨_, rfl, ?_⟩) | ((with_reducible refine gate_callee (f := 12) rfl ?_); refine goesL_ (some 107) rfl rfl Try.func12 (by kernel_rfl) rfl #[.int .u8 t254, .int .u8 t256] rfl (by (try simp only [List.map_toArray, List.map_cons, List.map_nil]); first | done | rfl | (simp only [List.length_drop, List.length_take]; rfl)) ?_; (with_reducible refine (gf256_Mul.calls kj17 t254 t256 t266 _ A30.out).mono ?_); rintro e w' ⟨rfl, ⟨nd, rfl⟩⟩; refine ⟨_, rfl, ?_⟩) | (go_at_call 28; (with_reducible refine (gf256_Exp.calls kj17 t260 t267 _ A32.out).mono ?_); rintro e w' ⟨rfl, ⟨nd, rfl⟩⟩) | (go_at_call 28; (with_reducible refine (gf256_Exp.calls kj17 a1 t268 _ A34.out).mono ?_); rintro e w' ⟨rfl, ⟨nd, rfl⟩⟩) | (go_at_call 28; (with_reducible refine (gf256_Exp.calls kj17 a2 t269 _ A35.out).mono ?_); rintro e w' ⟨rfl, ⟨nd, rfl⟩⟩) | (go_at_call 12; (with_reducible refine (gf256_Mul.calls kj17 t268 t269 t270 _ A36.out).mono ?_); rintro e w' ⟨rfl, ⟨nd, rfl⟩⟩) | (go_at_call 28; (with_reducible refine (gf256_Exp.calls kj17 (wrap64 (a1 + a2)) t271 _ A37.out).mono ?_); rintro e w' ⟨rfl, ⟨nd, rfl⟩⟩))
                          go_ret
                          exact ⟨by first | rfl | (simp [errW_none, errW_some] <;> rfl) | (simp [*, errW_none, errW_some] <;> rfl), by repeat (first | (with_reducible first | exact HB.out | apply below_alloc | apply pw_below_drewN | apply below_drew1) | exact HB.out)⟩
                      · rw [if_neg c39] at H
                        have c39b0 : (t264 == 1) = false := beq_eq_false_iff_ne.mpr c39
                        have c39b1 : (t264 != 1) = true := bne_iff_ne.mpr c39
                        obtain rfl := Option.some.inj H
                        go_wp2_with (first | ((with_reducible refine gate_callee (f := 14) rfl ?_); refine goesL_ (some 102) rfl rfl Try.func14 (by kernel_rfl) rfl #[.int .u8 a0, .int .i64 t262] rfl (by (try simp only [List.map_toArray, List.map_cons, List.map_nil]); first | done | rfl | (simp only [List.length_drop, List.length_take]; rfl)) ?_; (with_reducible refine (gf256_Pow.calls kj17 a0 t262 t264 t265 _ A29.out).mono ?_); rintro e w' ⟨rfl, ⟨nd, rfl⟩⟩; refine ⟨_, rfl, ?_⟩) | ((with_reducible refine gate_callee (f := 12) rfl ?_); refine goesL_ (some 107) rfl rfl Try.func12 (by kernel_rfl) rfl #[.int .u8 t254, .int .u8 t256] rfl (by (try simp only [List.map_toArray, List.map_cons, List.map_nil]); first | done | rfl | (simp only [List.length_drop, List.length_take]; rfl)) ?_; (with_reducible refine (gf256_Mul.calls kj17 t254 t256 t266 _ A30.out).mono ?_); rintro e w' ⟨rfl, ⟨nd, rfl⟩⟩; refine ⟨_, rfl, ?_⟩) | (go_at_call 28; (with_reducible refine (gf256_Exp.calls kj17 t260 t267 _ A32.out).mono ?_); rintro e w' ⟨rfl, ⟨nd, rfl⟩⟩) | (go_at_call 28; (with_reducible refine (gf256_Exp.calls kj17 a1 t268 _ A34.out).mono ?_); rintro e w' ⟨rfl, ⟨nd, rfl⟩⟩) | (go_at_call 28; (with_reducible refine (gf256_Exp.calls kj17 a2 t269 _ A35.out).mono ?_); rintro e w' ⟨rfl, ⟨nd, rfl⟩⟩) | (go_at_call 12; (with_reducible refine (gf256_Mul.calls kj17 t268 t269 t270 _ A36.out).mono ?_); rintro e w' ⟨rfl, ⟨nd, rfl⟩⟩) | (go_at_call 28; (with_reducible refine (gf256_Exp.calls kj17 (wrap64 (a1 + a2)) t271 _ A37.out).mono ?_); rintro e w' ⟨rfl, ⟨nd, rfl⟩⟩))
                        go_ret
                        exact ⟨by first | rfl | (simp [errW_none, errW_some] <;> rfl) | (simp [*, errW_none, errW_some] <;> rfl), by repeat (first | (with_reducible first | exact HB.out | apply below_alloc | apply pw_below_drewN | apply below_drew1) | exact HB.out)⟩
                    · rw [if_neg c38] at H
                      have c38b0 : (t270 == t271) = false := beq_eq_false_iff_ne.mpr c38
                      have c38b1 : (t270 != t271) = true := bne_iff_ne.mpr c38
                      obtain rfl := Option.some.inj H
                      go_wp2_with (first | ((with_reducible refine gate_callee (f := 14) rfl ?_); refine goesL_ (some 102) rfl rfl Try.func14 (by kernel_rfl) rfl #[.int .u8 a0, .int .i64 t262] rfl (by (try simp only [List.map_toArray, List.map_cons, List.map_nil]); first | done | rfl | (simp only [List.length_drop, List.length_take]; rfl)) ?_; (with_reducible refine (gf256_Pow.calls kj17 a0 t262 t264 t265 _ A29.out).mono ?_); rintro e w' ⟨rfl, ⟨nd, rfl⟩⟩; refine ⟨_, rfl, ?_⟩) | ((with_reducible refine gate_callee (f := 12) rfl ?_); refine goesL_ (some 107) rfl rfl Try.func12 (by kernel_rfl) rfl #[.int .u8 t254, .int .u8 t256] rfl (by (try simp only [List.map_toArray, List.map_cons, List.map_nil]); first | done | rfl | (simp only [List.length_drop, List.length_take]; rfl)) ?_; (with_reducible refine (gf256_Mul.calls kj17 t254 t256 t266 _ A30.out).mono ?_); rintro e w' ⟨rfl, ⟨nd, rfl⟩⟩; refine ⟨_, rfl, ?_⟩) | (go_at_call 28; (with_reducible refine (gf256_Exp.calls kj17 t260 t267 _ A32.out).mono ?_); rintro e w' ⟨rfl, ⟨nd, rfl⟩⟩) | (go_at_call 28; (with_reducible refine (gf256_Exp.calls kj17 a1 t268 _ A34.out).mono ?_); rintro e w' ⟨rfl, ⟨nd, rfl⟩⟩) | (go_at_call 28; (with_reducible refine (gf256_Exp.calls kj17 a2 t269 _ A35.out).mono ?_); rintro e w' ⟨rfl, ⟨nd, rfl⟩⟩) | (go_at_call 12; (with_reducible refine (gf256_Mul.calls kj17 t268 t269 t270 _ A36.out).mono ?_); rintro e w' ⟨rfl, ⟨nd, rfl⟩⟩) | (go_at_call 28; (with_reducible refine (gf256_Exp.calls kj17 (wrap64 (a1 + a2)) t271 _ A37.out).mono ?_); rintro e w' ⟨rfl, ⟨nd, rfl⟩⟩))
                      go_ret
                      exact ⟨by first | rfl | (simp [errW_none, errW_some] <;> rfl) | (simp [*, errW_none, errW_some] <;> rfl), by repeat (first | (with_reducible first | exact HB.out | apply below_alloc | apply pw_below_drewN | apply below_drew1) | exact HB.out)⟩
                  · rw [if_neg c33] at H
                    have c33b0 : (t267 == a0) = false := beq_eq_false_iff_ne.mpr c33
                    have c33b1 : (t267 != a0) = true := bne_iff_ne.mpr c33
                    obtain rfl := Option.some.inj H
                    go_wp2_with (first | ((with_reducible refine gate_callee (f := 14) rfl ?_); refine goesL_ (some 102) rfl rfl Try.func14 (by kernel_rfl) rfl #[.int .u8 a0, .int .i64 t262] rfl (by (try simp only [List.map_toArray, List.map_cons, List.map_nil]); first | done | rfl | (simp only [List.length_drop, List.length_take]; rfl)) ?_; (with_reducible refine (gf256_Pow.calls kj17 a0 t262 t264 t265 _ A29.out).mono ?_); rintro e w' ⟨rfl, ⟨nd, rfl⟩⟩; refine ⟨_, rfl, ?_⟩) | ((with_reducible refine gate_callee (f := 12) rfl ?_); refine goesL_ (some 107) rfl rfl Try.func12 (by kernel_rfl) rfl #[.int .u8 t254, .int .u8 t256] rfl (by (try simp only [List.map_toArray, List.map_cons, List.map_nil]); first | done | rfl | (simp only [List.length_drop, List.length_take]; rfl)) ?_; (with_reducible refine (gf256_Mul.calls kj17 t254 t256 t266 _ A30.out).mono ?_); rintro e w' ⟨rfl, ⟨nd, rfl⟩⟩; refine ⟨_, rfl, ?_⟩) | (go_at_call 28; (with_reducible refine (gf256_Exp.calls kj17 t260 t267 _ A32.out).mono ?_); rintro e w' ⟨rfl, ⟨nd, rfl⟩⟩))
                    go_ret
                    exact ⟨by first | rfl | (simp [errW_none, errW_some] <;> rfl) | (simp [*, errW_none, errW_some] <;> rfl), by repeat (first | (with_reducible first | exact HB.out | apply below_alloc | apply pw_below_drewN | apply below_drew1) | exact HB.out)⟩
                · rw [if_neg c31] at H
                  have c31b0 : (t266 == t258) = false := beq_eq_false_iff_ne.mpr c31
                  have c31b1 : (t266 != t258) = true := bne_iff_ne.mpr c31
                  obtain rfl := Option.some.inj H
                  go_wp2_with (first | ((with_reducible refine gate_callee (f := 14) rfl ?_); refine goesL_ (some 102) rfl rfl Try.func14 (by kernel_rfl) rfl #[.int .u8 a0, .int .i64 t262] rfl (by (try simp only [List.map_toArray, List.map_cons, List.map_nil]); first | done | rfl | (simp only [List.length_drop, List.length_take]; rfl)) ?_; (with_reducible refine (gf256_Pow.calls kj17 a0 t262 t264 t265 _ A29.out).mono ?_); rintro e w' ⟨rfl, ⟨nd, rfl⟩⟩; refine ⟨_, rfl, ?_⟩) | ((with_reducible refine gate_callee (f := 12) rfl ?_); refine goesL_ (some 107) rfl rfl Try.func12 (by kernel_rfl) rfl #[.int .u8 t254, .int .u8 t256] rfl (by (try simp only [List.map_toArray, List.map_cons, List.map_nil]); first | done | rfl | (simp only [List.length_drop, List.length_take]; rfl)) ?_; (with_reducible refine (gf256_Mul.calls kj17 t254 t256 t266 _ A30.out).mono ?_); rintro e w' ⟨rfl, ⟨nd, rfl⟩⟩; refine ⟨_, rfl, ?_⟩))
                  go_ret
                  exact ⟨by first | rfl | (simp [errW_none, errW_some] <;> rfl) | (simp [*, errW_none, errW_some] <;> rfl), by repeat (first | (with_reducible first | exact HB.out | apply below_alloc | apply pw_below_drewN | apply below_drew1) | exact HB.out)⟩
  · replace c5 := Bool.eq_false_iff.mpr c5
    subst c5
    have H1 : (some false) = some r := by rw [if_neg (show ¬ (false = true) by decide)] at H; exact H
    clear H
    have H := H1
    clear H1
    obtain rfl := Option.some.inj H
    go_enter Try.func9, Try.ntmps9
    go_wp2_with (first | ((with_reducible refine gate_callee (f := 11) rfl ?_); refine goesL_ (some 19) rfl rfl Try.func11 (by kernel_rfl) rfl #[] rfl (by (try simp only [List.map_toArray, List.map_cons, List.map_nil]); first | done | rfl | (simp only [List.length_drop, List.length_take]; rfl)) ?_; (with_reducible refine (kinkeeplaw02_awake.calls k  false _ A4.out).mono ?_); rintro e w41 ⟨rfl, hb⟩; refine ⟨_, rfl, ?_⟩; have n0_ := Aside0.mk (below_step (by repeat (first | (with_reducible first | exact HB.out | apply below_alloc | apply pw_below_drewN | apply below_drew1) | exact HB.out)) hb); clear HB; have HB := n0_; clear n0_; (try clear hb); (try clear hb2); (try clear hk); (try clear hi)))
    go_ret
    exact ⟨by first | rfl | (simp [errW_none, errW_some] <;> rfl) | (simp [*, errW_none, errW_some] <;> rfl), by repeat (first | (with_reducible first | exact HB.out | apply below_alloc | apply pw_below_drewN | apply below_drew1) | exact HB.out)⟩

/-- THE ONE PURE STATEMENT of kinkeeplaw02_Gf256Exponents: yours. -/
def kinkeeplaw02_Gf256Exponents.Pure : Prop := ∀ (a0 : Int) (a1 : Int) (a2 : Int), (Lit.int .u8 a0).wf = true → (Lit.int .i64 a1).wf = true → (Lit.int .i64 a2).wf = true → ∃ k, kinkeeplaw02_Gf256Exponents.f k a0 a1 a2 = some true
theorem kinkeeplaw02_Gf256Exponents.walk (P : kinkeeplaw02_Gf256Exponents.Pure) (a0 : Int) (a1 : Int) (a2 : Int) (w : World) (w0 : (Lit.int .u8 a0).wf = true) (w1 : (Lit.int .i64 a1).wf = true) (w2 : (Lit.int .i64 a2).wf = true) :
    Calls Try.prog 9 #[.int .u8 a0, .int .i64 a1, .int .i64 a2] w fun e w' => e = .returned (.bool true) ∧ Below w.heap.size w w' := by
  obtain ⟨k, h⟩ := P a0 a1 a2 w0 w1 w2
  refine (kinkeeplaw02_Gf256Exponents.calls k a0 a1 a2 true w h).mono ?_
  rintro e w' ⟨rfl, hd⟩
  exact ⟨rfl, hd⟩

end Go.Proofs.Ytaagfllcfkjkgaa.PG
