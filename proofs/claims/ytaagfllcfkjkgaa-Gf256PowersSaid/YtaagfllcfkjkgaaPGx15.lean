-- Written by a program of this session (a patched copy of the kit's print.py, over given contracts proved by hand). Lean checks it.
import Derived.Test.YtaagfllcfkjkgaaPGx0
import Derived.Test.YtaagfllcfkjkgaaPGx1
import Derived.Test.YtaagfllcfkjkgaaPGx2
import Derived.Test.YtaagfllcfkjkgaaPGx5
import Derived.Test.YtaagfllcfkjkgaaPGx6
import Derived.Test.YtaagfllcfkjkgaaPGx7
namespace Go.Proofs.Ytaagfllcfkjkgaa.PG
open Go.RowKit Go.Proofs.YtaagfllcfkjkgaaW.PrintWords Go.Proofs.YtaagfllcfkjkgaaW.PrintLast Go.Proofs.YtaagfllcfkjkgaaW.PrintMore
attribute [local go_sem] max2_int min2_int max_two min_two max_three min_three max_four min_four   -- for this text's walks alone
set_option linter.unusedVariables false
set_option linter.unusedSimpArgs false

/-! ### kinkeeplaw02_Gf256Powers: function 10 -/
def kinkeeplaw02_Gf256Powers.j0 : Nat → Int → Int → Int → Int → Int → Int → Int → Int → Bool → Option (Bool)
  | 0, _, _, _, _, _, _, _, _, _ => none
  | k + 1, x0, x1, x5, x6, x7, x8, x9, x10, x40 => if x40 = true then (some false) else (if x0 = 0 then (if x1 < 0 then (if x6 = 1 then (if x5 = 0 then (if x8 = 1 then (some (x10 == 1)) else (some false)) else (some false)) else (some false)) else (if x6 = 0 then ((kinkeepref02_Pow.f k 0 x1).bind fun t287 => (if x5 = t287 then (if x8 = 1 then (if x10 = 1 then (if x7 = 0 then (some (x9 == 0)) else (some false)) else (some false)) else (some false)) else (some false))) else (some false))) else (if x6 = 0 then (if x8 = 0 then (if x10 = 0 then ((kinkeepref02_Pow.f k x0 x1).bind fun t288 => (if x5 = t288 then ((kinkeepref02_Log.f k x0).bind fun t289 => (if x7 = t289 then ((kinkeepref02_Order.f k x0).bind fun t290 => (some (x9 == t290))) else (some false))) else (some false))) else (some false)) else (some false)) else (some false)))
def kinkeeplaw02_Gf256Powers.f (k : Nat) (a0 : Int) (a1 : Int) : Option (Bool) := (kinkeeplaw02_awake.f k).bind fun t276 => (if t276 = true then ((gf256_Pow.f k a0 a1).bind fun bt277 => ((gf256_Log.f a0).bind fun bt279 => ((gf256_Order.f k a0).bind fun bt281 => ((gf256_Exp.f k a1).bind fun t283 => ((kinkeepref02_Pow.f k 2 a1).bind fun t284 => (if t283 = t284 then ((gf256_Sqrt.f k a0).bind fun t285 => ((kinkeepref02_Sqrt.f k a0).bind fun t286 => (kinkeeplaw02_Gf256Powers.j0 k a0 a1 bt277.1 bt277.2 bt279.1 bt279.2 bt281.1 bt281.2 (t285 != t286)))) else (kinkeeplaw02_Gf256Powers.j0 k a0 a1 bt277.1 bt277.2 bt279.1 bt279.2 bt281.1 bt281.2 true))))))) else (some false))
theorem kinkeeplaw02_Gf256Powers.mono_l : ∀ k, (∀ y0 y1 y2 y3 y4 y5 y6 y7 y8, LeO (kinkeeplaw02_Gf256Powers.j0 k y0 y1 y2 y3 y4 y5 y6 y7 y8) (kinkeeplaw02_Gf256Powers.j0 (k + 1) y0 y1 y2 y3 y4 y5 y6 y7 y8))
  | 0 => fun _ _ _ _ _ _ _ _ _ r h => by simp [kinkeeplaw02_Gf256Powers.j0] at h
  | k + 1 => by
    have ih0 := kinkeeplaw02_Gf256Powers.mono_l k
    · intro y0 y1 y2 y3 y4 y5 y6 y7 y8
      unfold kinkeeplaw02_Gf256Powers.j0
      repeat' first
      | (with_reducible exact ih0 _ _ _ _ _ _ _ _ _)
      | (with_reducible exact gf256_Exp.mono _ _)
      | (with_reducible exact gf256_Order.mono _ _)
      | (with_reducible exact gf256_Pow.mono _ _ _)
      | (with_reducible exact gf256_Sqrt.mono _ _)
      | (with_reducible exact kinkeeplaw02_awake.mono _)
      | (with_reducible exact kinkeepref02_Log.mono _ _)
      | (with_reducible exact kinkeepref02_Order.mono _ _)
      | (with_reducible exact kinkeepref02_Pow.mono _ _ _)
      | (with_reducible exact kinkeepref02_Sqrt.mono _ _)
      | (with_reducible exact LeO.refl _)
      | (with_reducible exact LeO.none _)
      | (with_reducible refine LeO.ite ?_ ?_)
      | (with_reducible refine LeO.bind ?_ (fun _ => ?_))
      | exact ih0 _ _ _ _ _ _ _ _ _
      | exact gf256_Exp.mono _ _
      | exact gf256_Order.mono _ _
      | exact gf256_Pow.mono _ _ _
      | exact gf256_Sqrt.mono _ _
      | exact kinkeeplaw02_awake.mono _
      | exact kinkeepref02_Log.mono _ _
      | exact kinkeepref02_Order.mono _ _
      | exact kinkeepref02_Pow.mono _ _ _
      | exact kinkeepref02_Sqrt.mono _ _
      | exact LeO.none _
      | refine LeO.ite ?_ ?_
      | refine LeO.bind ?_ (fun _ => ?_)
theorem kinkeeplaw02_Gf256Powers.mono : ∀ a0 a1 k, LeO (kinkeeplaw02_Gf256Powers.f k a0 a1) (kinkeeplaw02_Gf256Powers.f (k + 1) a0 a1) := by
  intro a0 a1 k
  have ih0 := kinkeeplaw02_Gf256Powers.mono_l k
  unfold kinkeeplaw02_Gf256Powers.f
  repeat' first
      | (with_reducible exact ih0 _ _ _ _ _ _ _ _ _)
      | (with_reducible exact gf256_Exp.mono _ _)
      | (with_reducible exact gf256_Order.mono _ _)
      | (with_reducible exact gf256_Pow.mono _ _ _)
      | (with_reducible exact gf256_Sqrt.mono _ _)
      | (with_reducible exact kinkeeplaw02_awake.mono _)
      | (with_reducible exact kinkeepref02_Log.mono _ _)
      | (with_reducible exact kinkeepref02_Order.mono _ _)
      | (with_reducible exact kinkeepref02_Pow.mono _ _ _)
      | (with_reducible exact kinkeepref02_Sqrt.mono _ _)
      | (with_reducible exact LeO.refl _)
      | (with_reducible exact LeO.none _)
      | (with_reducible refine LeO.ite ?_ ?_)
      | (with_reducible refine LeO.bind ?_ (fun _ => ?_))
      | exact ih0 _ _ _ _ _ _ _ _ _
      | exact gf256_Exp.mono _ _
      | exact gf256_Order.mono _ _
      | exact gf256_Pow.mono _ _ _
      | exact gf256_Sqrt.mono _ _
      | exact kinkeeplaw02_awake.mono _
      | exact kinkeepref02_Log.mono _ _
      | exact kinkeepref02_Order.mono _ _
      | exact kinkeepref02_Pow.mono _ _ _
      | exact kinkeepref02_Sqrt.mono _ _
      | exact LeO.none _
      | refine LeO.ite ?_ ?_
      | refine LeO.bind ?_ (fun _ => ?_)
set_option maxHeartbeats 8000000 in
set_option maxRecDepth 100000 in
theorem kinkeeplaw02_Gf256Powers.calls (k : Nat) (a0 : Int) (a1 : Int) (r : Bool) (w : World) (h : kinkeeplaw02_Gf256Powers.f k a0 a1 = some r) :
    Calls Try.prog 10 #[.int .u8 a0, .int .i64 a1] w fun e w' => e = .returned (.bool r) ∧ Below w.heap.size w w' := by
  have HB := Aside0.mk (Below.refl w.heap.size w)
  have H : ((kinkeeplaw02_awake.f k).bind fun t276 => (if t276 = true then ((gf256_Pow.f k a0 a1).bind fun bt277 => ((gf256_Log.f a0).bind fun bt279 => ((gf256_Order.f k a0).bind fun bt281 => ((gf256_Exp.f k a1).bind fun t283 => ((kinkeepref02_Pow.f k 2 a1).bind fun t284 => (if t283 = t284 then ((gf256_Sqrt.f k a0).bind fun t285 => ((kinkeepref02_Sqrt.f k a0).bind fun t286 => (kinkeeplaw02_Gf256Powers.j0 k a0 a1 bt277.1 bt277.2 bt279.1 bt279.2 bt281.1 bt281.2 (t285 != t286)))) else (kinkeeplaw02_Gf256Powers.j0 k a0 a1 bt277.1 bt277.2 bt279.1 bt279.2 bt281.1 bt281.2 true))))))) else (some false))) = some r := h
  clear h
  replace H := Option.bind_eq_some_iff.mp H
  obtain ⟨t276, A30, H⟩ := H
  replace H : (if t276 = true then ((gf256_Pow.f k a0 a1).bind fun bt277 => ((gf256_Log.f a0).bind fun bt279 => ((gf256_Order.f k a0).bind fun bt281 => ((gf256_Exp.f k a1).bind fun t283 => ((kinkeepref02_Pow.f k 2 a1).bind fun t284 => (if t283 = t284 then ((gf256_Sqrt.f k a0).bind fun t285 => ((kinkeepref02_Sqrt.f k a0).bind fun t286 => (kinkeeplaw02_Gf256Powers.j0 k a0 a1 bt277.1 bt277.2 bt279.1 bt279.2 bt281.1 bt281.2 (t285 != t286)))) else (kinkeeplaw02_Gf256Powers.j0 k a0 a1 bt277.1 bt277.2 bt279.1 bt279.2 bt281.1 bt281.2 true))))))) else (some false)) = some r := H
  have A3 := Aside0.mk A30
  clear A30
  by_cases c4 : t276 = true
  · subst c4
    have H1 : ((gf256_Pow.f k a0 a1).bind fun bt277 => ((gf256_Log.f a0).bind fun bt279 => ((gf256_Order.f k a0).bind fun bt281 => ((gf256_Exp.f k a1).bind fun t283 => ((kinkeepref02_Pow.f k 2 a1).bind fun t284 => (if t283 = t284 then ((gf256_Sqrt.f k a0).bind fun t285 => ((kinkeepref02_Sqrt.f k a0).bind fun t286 => (kinkeeplaw02_Gf256Powers.j0 k a0 a1 bt277.1 bt277.2 bt279.1 bt279.2 bt281.1 bt281.2 (t285 != t286)))) else (kinkeeplaw02_Gf256Powers.j0 k a0 a1 bt277.1 bt277.2 bt279.1 bt279.2 bt281.1 bt281.2 true))))))) = some r := by rw [if_pos rfl] at H; exact H
    clear H
    have H := H1
    clear H1
    replace H := Option.bind_eq_some_iff.mp H
    obtain ⟨⟨t277, t278⟩, A50, H⟩ := H
    replace H : ((gf256_Log.f a0).bind fun bt279 => ((gf256_Order.f k a0).bind fun bt281 => ((gf256_Exp.f k a1).bind fun t283 => ((kinkeepref02_Pow.f k 2 a1).bind fun t284 => (if t283 = t284 then ((gf256_Sqrt.f k a0).bind fun t285 => ((kinkeepref02_Sqrt.f k a0).bind fun t286 => (kinkeeplaw02_Gf256Powers.j0 k a0 a1 t277 t278 bt279.1 bt279.2 bt281.1 bt281.2 (t285 != t286)))) else (kinkeeplaw02_Gf256Powers.j0 k a0 a1 t277 t278 bt279.1 bt279.2 bt281.1 bt281.2 true)))))) = some r := H
    have A5 := Aside0.mk A50
    clear A50
    replace H := Option.bind_eq_some_iff.mp H
    obtain ⟨⟨t279, t280⟩, A60, H⟩ := H
    replace H : ((gf256_Order.f k a0).bind fun bt281 => ((gf256_Exp.f k a1).bind fun t283 => ((kinkeepref02_Pow.f k 2 a1).bind fun t284 => (if t283 = t284 then ((gf256_Sqrt.f k a0).bind fun t285 => ((kinkeepref02_Sqrt.f k a0).bind fun t286 => (kinkeeplaw02_Gf256Powers.j0 k a0 a1 t277 t278 t279 t280 bt281.1 bt281.2 (t285 != t286)))) else (kinkeeplaw02_Gf256Powers.j0 k a0 a1 t277 t278 t279 t280 bt281.1 bt281.2 true))))) = some r := H
    have A6 := Aside0.mk A60
    clear A60
    replace H := Option.bind_eq_some_iff.mp H
    obtain ⟨⟨t281, t282⟩, A70, H⟩ := H
    replace H : ((gf256_Exp.f k a1).bind fun t283 => ((kinkeepref02_Pow.f k 2 a1).bind fun t284 => (if t283 = t284 then ((gf256_Sqrt.f k a0).bind fun t285 => ((kinkeepref02_Sqrt.f k a0).bind fun t286 => (kinkeeplaw02_Gf256Powers.j0 k a0 a1 t277 t278 t279 t280 t281 t282 (t285 != t286)))) else (kinkeeplaw02_Gf256Powers.j0 k a0 a1 t277 t278 t279 t280 t281 t282 true)))) = some r := H
    have A7 := Aside0.mk A70
    clear A70
    have HC8 := Aside0.mk H
    clear H
    go_enter Try.func10, Try.ntmps10
    go_upto_region 6 with (first | ((with_reducible refine gate_callee (f := 11) rfl ?_); refine goesL_ (some 11) rfl rfl Try.func11 (by kernel_rfl) rfl #[] rfl (by (try simp only [List.map_toArray, List.map_cons, List.map_nil]); first | done | rfl | (simp only [List.length_drop, List.length_take]; rfl)) ?_; (with_reducible refine (kinkeeplaw02_awake.calls k  true _ A3.out).mono ?_); rintro e w9 ⟨rfl, hb⟩; refine ⟨_, rfl, ?_⟩; have n0_ := Aside0.mk (below_step (by repeat (first | (with_reducible first | exact HB.out | apply below_alloc | apply pw_below_drewN | apply below_drew1) | exact HB.out)) hb); clear HB; have HB := n0_; clear n0_; (try clear hb); (try clear hb2); (try clear hk); (try clear hi)) | ((with_reducible refine gate_callee (f := 14) rfl ?_); refine goesL_ (some 16) rfl rfl Try.func14 (by kernel_rfl) rfl #[.int .u8 a0, .int .i64 a1] rfl (by (try simp only [List.map_toArray, List.map_cons, List.map_nil]); first | done | rfl | (simp only [List.length_drop, List.length_take]; rfl)) ?_; (with_reducible refine (gf256_Pow.calls k a0 a1 t277 t278 _ A5.out).mono ?_); rintro e w' ⟨rfl, ⟨nd, rfl⟩⟩; refine ⟨_, rfl, ?_⟩) | ((with_reducible refine gate_callee (f := 26) rfl ?_); refine goesL_ (some 21) rfl rfl Try.func26 (by kernel_rfl) rfl #[.int .u8 a0] rfl (by (try simp only [List.map_toArray, List.map_cons, List.map_nil]); first | done | rfl | (simp only [List.length_drop, List.length_take]; rfl)) ?_; (with_reducible refine (gf256_Log.calls a0 t279 t280 _ A6.out).mono ?_); rintro e w10 ⟨rfl, hb⟩; refine ⟨_, rfl, ?_⟩; have n0_ := Aside0.mk (below_step (by repeat (first | (with_reducible first | exact HB.out | apply below_alloc | apply pw_below_drewN | apply below_drew1) | exact HB.out)) hb); clear HB; have HB := n0_; clear n0_; (try clear hb); (try clear hb2); (try clear hk); (try clear hi)) | ((with_reducible refine gate_callee (f := 27) rfl ?_); refine goesL_ (some 26) rfl rfl Try.func27 (by kernel_rfl) rfl #[.int .u8 a0] rfl (by (try simp only [List.map_toArray, List.map_cons, List.map_nil]); first | done | rfl | (simp only [List.length_drop, List.length_take]; rfl)) ?_; (with_reducible refine (gf256_Order.calls k a0 t281 t282 _ A7.out).mono ?_); rintro e w11 ⟨rfl, hb⟩; refine ⟨_, rfl, ?_⟩; have n0_ := Aside0.mk (below_step (by repeat (first | (with_reducible first | exact HB.out | apply below_alloc | apply pw_below_drewN | apply below_drew1) | exact HB.out)) hb); clear HB; have HB := n0_; clear n0_; (try clear hb); (try clear hb2); (try clear hk); (try clear hi)))
    (try simp only [Act.put, List.setIfInBounds_toArray, List.set_cons_zero, List.set_cons_succ])
    go_cut [40] (fun v40 wc => ∃ (kq : Nat) (x40_7 : Bool), v40 = .bool x40_7 ∧ Aside0 (kinkeeplaw02_Gf256Powers.j0 kq a0 a1 t277 t278 t279 t280 t281 t282 x40_7 = some r) ∧ Aside0 (kq ≤ k) ∧ Aside0 (Below w.heap.size w wc))
    case first =>
      have H := HC8.out
      clear HC8
      replace H := Option.bind_eq_some_iff.mp H
      obtain ⟨t283, A120, H⟩ := H
      replace H : ((kinkeepref02_Pow.f k 2 a1).bind fun t284 => (if t283 = t284 then ((gf256_Sqrt.f k a0).bind fun t285 => ((kinkeepref02_Sqrt.f k a0).bind fun t286 => (kinkeeplaw02_Gf256Powers.j0 k a0 a1 t277 t278 t279 t280 t281 t282 (t285 != t286)))) else (kinkeeplaw02_Gf256Powers.j0 k a0 a1 t277 t278 t279 t280 t281 t282 true))) = some r := H
      have A12 := Aside0.mk A120
      clear A120
      replace H := Option.bind_eq_some_iff.mp H
      obtain ⟨t284, A130, H⟩ := H
      replace H : (if t283 = t284 then ((gf256_Sqrt.f k a0).bind fun t285 => ((kinkeepref02_Sqrt.f k a0).bind fun t286 => (kinkeeplaw02_Gf256Powers.j0 k a0 a1 t277 t278 t279 t280 t281 t282 (t285 != t286)))) else (kinkeeplaw02_Gf256Powers.j0 k a0 a1 t277 t278 t279 t280 t281 t282 true)) = some r := H
      have A13 := Aside0.mk A130
      clear A130
      by_cases c14 : t283 = t284
      · rw [if_pos c14] at H
        have c14b0 : (t283 == t284) = true := beq_iff_eq.mpr c14
        have c14b1 : (t283 != t284) = false := bne_eq_false_iff_eq.mpr c14
        clear c14
        (first | rw [c14b0] | (simp only [i64_w, i32_w]; rw [c14b0]) | skip)
        replace H := Option.bind_eq_some_iff.mp H
        obtain ⟨t285, A150, H⟩ := H
        replace H : ((kinkeepref02_Sqrt.f k a0).bind fun t286 => (kinkeeplaw02_Gf256Powers.j0 k a0 a1 t277 t278 t279 t280 t281 t282 (t285 != t286))) = some r := H
        have A15 := Aside0.mk A150
        clear A150
        replace H := Option.bind_eq_some_iff.mp H
        obtain ⟨t286, A160, H⟩ := H
        replace H : (kinkeeplaw02_Gf256Powers.j0 k a0 a1 t277 t278 t279 t280 t281 t282 (t285 != t286)) = some r := H
        have A16 := Aside0.mk A160
        clear A160
        have H' := Aside0.mk H
        clear H
        go_wp2_with (first | ((with_reducible refine gate_callee (f := 28) rfl ?_); refine goesL_ (some 30) rfl rfl Try.func28 (by kernel_rfl) rfl #[.int .i64 a1] rfl (by (try simp only [List.map_toArray, List.map_cons, List.map_nil]); first | done | rfl | (simp only [List.length_drop, List.length_take]; rfl)) ?_; (with_reducible refine (gf256_Exp.calls k a1 t283 _ A12.out).mono ?_); rintro e w' ⟨rfl, ⟨nd, rfl⟩⟩; refine ⟨_, rfl, ?_⟩) | ((with_reducible refine gate_callee (f := 29) rfl ?_); refine goesL_ (some 32) rfl rfl Try.func29 (by kernel_rfl) rfl #[.int .u8 2, .int .i64 a1] rfl (by (try simp only [List.map_toArray, List.map_cons, List.map_nil]); first | done | rfl | (simp only [List.length_drop, List.length_take]; rfl)) ?_; (with_reducible refine (kinkeepref02_Pow.calls k 2 a1 t284 _ A13.out).mono ?_); rintro e w' ⟨rfl, ⟨nd, rfl⟩⟩; refine ⟨_, rfl, ?_⟩) | (go_at_call 15; (with_reducible refine (gf256_Sqrt.calls k a0 t285 _ A15.out).mono ?_); rintro e w' ⟨rfl, ⟨nd, rfl⟩⟩) | (go_at_call 30; (with_reducible refine (kinkeepref02_Sqrt.calls k a0 t286 _ A16.out).mono ?_); rintro e w' ⟨rfl, ⟨nd, rfl⟩⟩))
        go_meet
        case rel => exact ⟨_, ((t285 != t286)), (by first | rfl | (simp; done) | (simp [*]; done)), H', ⟨by first | omega | exact Nat.le_refl _⟩, ⟨by repeat (first | (with_reducible first | exact HB.out | apply below_alloc | apply pw_below_drewN | apply below_drew1) | exact HB.out)⟩⟩
      · rw [if_neg c14] at H
        have c14b0 : (t283 == t284) = false := beq_eq_false_iff_ne.mpr c14
        have c14b1 : (t283 != t284) = true := bne_iff_ne.mpr c14
        (first | rw [c14b0] | (simp only [i64_w, i32_w]; rw [c14b0]) | skip)
        have H' := Aside0.mk H
        clear H
        go_wp2_with (first | ((with_reducible refine gate_callee (f := 28) rfl ?_); refine goesL_ (some 30) rfl rfl Try.func28 (by kernel_rfl) rfl #[.int .i64 a1] rfl (by (try simp only [List.map_toArray, List.map_cons, List.map_nil]); first | done | rfl | (simp only [List.length_drop, List.length_take]; rfl)) ?_; (with_reducible refine (gf256_Exp.calls k a1 t283 _ A12.out).mono ?_); rintro e w' ⟨rfl, ⟨nd, rfl⟩⟩; refine ⟨_, rfl, ?_⟩) | ((with_reducible refine gate_callee (f := 29) rfl ?_); refine goesL_ (some 32) rfl rfl Try.func29 (by kernel_rfl) rfl #[.int .u8 2, .int .i64 a1] rfl (by (try simp only [List.map_toArray, List.map_cons, List.map_nil]); first | done | rfl | (simp only [List.length_drop, List.length_take]; rfl)) ?_; (with_reducible refine (kinkeepref02_Pow.calls k 2 a1 t284 _ A13.out).mono ?_); rintro e w' ⟨rfl, ⟨nd, rfl⟩⟩; refine ⟨_, rfl, ?_⟩))
        go_meet
        case rel => exact ⟨_, (true), (by first | rfl | (simp; done) | (simp [*]; done)), H', ⟨by first | omega | exact Nat.le_refl _⟩, ⟨by repeat (first | (with_reducible first | exact HB.out | apply below_alloc | apply pw_below_drewN | apply below_drew1) | exact HB.out)⟩⟩
    case rest =>
      clear HC8
      try clear c1
      try clear c2
      try clear p2
      try clear c4
      try clear c10
      try clear c11
      try clear c14
      try clear c14b0
      try clear c14b1
      obtain ⟨kq, x40_7, rfl, HA, HJ7, HB⟩ := hcut
      cases kq with
      | zero => exact absurd HA.out (by simp [kinkeeplaw02_Gf256Powers.j0])
      | succ kj7 =>
        have H := HA.out
        clear HA
        simp only [kinkeeplaw02_Gf256Powers.j0] at H
        by_cases c17 : x40_7 = true
        · subst c17
          have H1 : (some false) = some r := by rw [if_pos rfl] at H; exact H
          clear H
          have H := H1
          clear H1
          obtain rfl := Option.some.inj H
          go_wp2
          go_ret
          exact ⟨by first | rfl | (simp [errW_none, errW_some] <;> rfl) | (simp [*, errW_none, errW_some] <;> rfl), by repeat (first | (with_reducible first | exact HB.out | apply below_alloc | apply pw_below_drewN | apply below_drew1) | exact HB.out)⟩
        · replace c17 := Bool.eq_false_iff.mpr c17
          subst c17
          have H1 : (if a0 = 0 then (if a1 < 0 then (if t278 = 1 then (if t277 = 0 then (if t280 = 1 then (some (t282 == 1)) else (some false)) else (some false)) else (some false)) else (if t278 = 0 then ((kinkeepref02_Pow.f kj7 0 a1).bind fun t287 => (if t277 = t287 then (if t280 = 1 then (if t282 = 1 then (if t279 = 0 then (some (t281 == 0)) else (some false)) else (some false)) else (some false)) else (some false))) else (some false))) else (if t278 = 0 then (if t280 = 0 then (if t282 = 0 then ((kinkeepref02_Pow.f kj7 a0 a1).bind fun t288 => (if t277 = t288 then ((kinkeepref02_Log.f kj7 a0).bind fun t289 => (if t279 = t289 then ((kinkeepref02_Order.f kj7 a0).bind fun t290 => (some (t281 == t290))) else (some false))) else (some false))) else (some false)) else (some false)) else (some false))) = some r := by rw [if_neg (show ¬ (false = true) by decide)] at H; exact H
          clear H
          have H := H1
          clear H1
          by_cases c18 : a0 = 0
          · rw [if_pos c18] at H
            have c18b0 : (a0 == 0) = true := beq_iff_eq.mpr c18
            have c18b1 : (a0 != 0) = false := bne_eq_false_iff_eq.mpr c18
            clear c18
            by_cases c19 : a1 < 0
            · rw [if_pos c19] at H
              have c19b0 : decide (a1 < 0) = true := decide_eq_true c19
              clear c19
              by_cases c20 : t278 = 1
              · rw [if_pos c20] at H
                have c20b0 : (t278 == 1) = true := beq_iff_eq.mpr c20
                have c20b1 : (t278 != 1) = false := bne_eq_false_iff_eq.mpr c20
                clear c20
                by_cases c21 : t277 = 0
                · rw [if_pos c21] at H
                  have c21b0 : (t277 == 0) = true := beq_iff_eq.mpr c21
                  have c21b1 : (t277 != 0) = false := bne_eq_false_iff_eq.mpr c21
                  clear c21
                  by_cases c22 : t280 = 1
                  · rw [if_pos c22] at H
                    have c22b0 : (t280 == 1) = true := beq_iff_eq.mpr c22
                    have c22b1 : (t280 != 1) = false := bne_eq_false_iff_eq.mpr c22
                    clear c22
                    obtain rfl := Option.some.inj H
                    go_wp2
                    go_ret
                    exact ⟨by first | rfl | (simp [errW_none, errW_some] <;> rfl) | (simp [*, errW_none, errW_some] <;> rfl), by repeat (first | (with_reducible first | exact HB.out | apply below_alloc | apply pw_below_drewN | apply below_drew1) | exact HB.out)⟩
                  · rw [if_neg c22] at H
                    have c22b0 : (t280 == 1) = false := beq_eq_false_iff_ne.mpr c22
                    have c22b1 : (t280 != 1) = true := bne_iff_ne.mpr c22
                    obtain rfl := Option.some.inj H
                    go_wp2
                    go_ret
                    exact ⟨by first | rfl | (simp [errW_none, errW_some] <;> rfl) | (simp [*, errW_none, errW_some] <;> rfl), by repeat (first | (with_reducible first | exact HB.out | apply below_alloc | apply pw_below_drewN | apply below_drew1) | exact HB.out)⟩
                · rw [if_neg c21] at H
                  have c21b0 : (t277 == 0) = false := beq_eq_false_iff_ne.mpr c21
                  have c21b1 : (t277 != 0) = true := bne_iff_ne.mpr c21
                  obtain rfl := Option.some.inj H
                  go_wp2
                  go_ret
                  exact ⟨by first | rfl | (simp [errW_none, errW_some] <;> rfl) | (simp [*, errW_none, errW_some] <;> rfl), by repeat (first | (with_reducible first | exact HB.out | apply below_alloc | apply pw_below_drewN | apply below_drew1) | exact HB.out)⟩
              · rw [if_neg c20] at H
                have c20b0 : (t278 == 1) = false := beq_eq_false_iff_ne.mpr c20
                have c20b1 : (t278 != 1) = true := bne_iff_ne.mpr c20
                obtain rfl := Option.some.inj H
                go_wp2
                go_ret
                exact ⟨by first | rfl | (simp [errW_none, errW_some] <;> rfl) | (simp [*, errW_none, errW_some] <;> rfl), by repeat (first | (with_reducible first | exact HB.out | apply below_alloc | apply pw_below_drewN | apply below_drew1) | exact HB.out)⟩
            · rw [if_neg c19] at H
              have c19b0 : decide (a1 < 0) = false := decide_eq_false c19
              clear c19
              by_cases c23 : t278 = 0
              · rw [if_pos c23] at H
                have c23b0 : (t278 == 0) = true := beq_iff_eq.mpr c23
                have c23b1 : (t278 != 0) = false := bne_eq_false_iff_eq.mpr c23
                clear c23
                replace H := Option.bind_eq_some_iff.mp H
                obtain ⟨t287, A240, H⟩ := H
                replace H : (if t277 = t287 then (if t280 = 1 then (if t282 = 1 then (if t279 = 0 then (some (t281 == 0)) else (some false)) else (some false)) else (some false)) else (some false)) = some r := H
                have A24 := Aside0.mk A240
                clear A240
                by_cases c25 : t277 = t287
                · rw [if_pos c25] at H
                  have c25b0 : (t277 == t287) = true := beq_iff_eq.mpr c25
                  have c25b1 : (t277 != t287) = false := bne_eq_false_iff_eq.mpr c25
                  clear c25
                  by_cases c26 : t280 = 1
                  · rw [if_pos c26] at H
                    have c26b0 : (t280 == 1) = true := beq_iff_eq.mpr c26
                    have c26b1 : (t280 != 1) = false := bne_eq_false_iff_eq.mpr c26
                    clear c26
                    by_cases c27 : t282 = 1
                    · rw [if_pos c27] at H
                      have c27b0 : (t282 == 1) = true := beq_iff_eq.mpr c27
                      have c27b1 : (t282 != 1) = false := bne_eq_false_iff_eq.mpr c27
                      clear c27
                      by_cases c28 : t279 = 0
                      · rw [if_pos c28] at H
                        have c28b0 : (t279 == 0) = true := beq_iff_eq.mpr c28
                        have c28b1 : (t279 != 0) = false := bne_eq_false_iff_eq.mpr c28
                        clear c28
                        obtain rfl := Option.some.inj H
                        go_wp2_with (first | (go_at_call 29; (with_reducible refine (kinkeepref02_Pow.calls kj7 0 a1 t287 _ A24.out).mono ?_); rintro e w' ⟨rfl, ⟨nd, rfl⟩⟩))
                        go_ret
                        exact ⟨by first | rfl | (simp [errW_none, errW_some] <;> rfl) | (simp [*, errW_none, errW_some] <;> rfl), by repeat (first | (with_reducible first | exact HB.out | apply below_alloc | apply pw_below_drewN | apply below_drew1) | exact HB.out)⟩
                      · rw [if_neg c28] at H
                        have c28b0 : (t279 == 0) = false := beq_eq_false_iff_ne.mpr c28
                        have c28b1 : (t279 != 0) = true := bne_iff_ne.mpr c28
                        obtain rfl := Option.some.inj H
                        go_wp2_with (first | (go_at_call 29; (with_reducible refine (kinkeepref02_Pow.calls kj7 0 a1 t287 _ A24.out).mono ?_); rintro e w' ⟨rfl, ⟨nd, rfl⟩⟩))
                        go_ret
                        exact ⟨by first | rfl | (simp [errW_none, errW_some] <;> rfl) | (simp [*, errW_none, errW_some] <;> rfl), by repeat (first | (with_reducible first | exact HB.out | apply below_alloc | apply pw_below_drewN | apply below_drew1) | exact HB.out)⟩
                    · rw [if_neg c27] at H
                      have c27b0 : (t282 == 1) = false := beq_eq_false_iff_ne.mpr c27
                      have c27b1 : (t282 != 1) = true := bne_iff_ne.mpr c27
                      obtain rfl := Option.some.inj H
                      go_wp2_with (first | (go_at_call 29; (with_reducible refine (kinkeepref02_Pow.calls kj7 0 a1 t287 _ A24.out).mono ?_); rintro e w' ⟨rfl, ⟨nd, rfl⟩⟩))
                      go_ret
                      exact ⟨by first | rfl | (simp [errW_none, errW_some] <;> rfl) | (simp [*, errW_none, errW_some] <;> rfl), by repeat (first | (with_reducible first | exact HB.out | apply below_alloc | apply pw_below_drewN | apply below_drew1) | exact HB.out)⟩
                  · rw [if_neg c26] at H
                    have c26b0 : (t280 == 1) = false := beq_eq_false_iff_ne.mpr c26
                    have c26b1 : (t280 != 1) = true := bne_iff_ne.mpr c26
                    obtain rfl := Option.some.inj H
                    go_wp2_with (first | (go_at_call 29; (with_reducible refine (kinkeepref02_Pow.calls kj7 0 a1 t287 _ A24.out).mono ?_); rintro e w' ⟨rfl, ⟨nd, rfl⟩⟩))
                    go_ret
                    exact ⟨by first | rfl | (simp [errW_none, errW_some] <;> rfl) | (simp [*, errW_none, errW_some] <;> rfl), by repeat (first | (with_reducible first | exact HB.out | apply below_alloc | apply pw_below_drewN | apply below_drew1) | exact HB.out)⟩
                · rw [if_neg c25] at H
                  have c25b0 : (t277 == t287) = false := beq_eq_false_iff_ne.mpr c25
                  have c25b1 : (t277 != t287) = true := bne_iff_ne.mpr c25
                  obtain rfl := Option.some.inj H
                  go_wp2_with (first | (go_at_call 29; (with_reducible refine (kinkeepref02_Pow.calls kj7 0 a1 t287 _ A24.out).mono ?_); rintro e w' ⟨rfl, ⟨nd, rfl⟩⟩))
                  go_ret
                  exact ⟨by first | rfl | (simp [errW_none, errW_some] <;> rfl) | (simp [*, errW_none, errW_some] <;> rfl), by repeat (first | (with_reducible first | exact HB.out | apply below_alloc | apply pw_below_drewN | apply below_drew1) | exact HB.out)⟩
              · rw [if_neg c23] at H
                have c23b0 : (t278 == 0) = false := beq_eq_false_iff_ne.mpr c23
                have c23b1 : (t278 != 0) = true := bne_iff_ne.mpr c23
                obtain rfl := Option.some.inj H
                go_wp2
                go_ret
                exact ⟨by first | rfl | (simp [errW_none, errW_some] <;> rfl) | (simp [*, errW_none, errW_some] <;> rfl), by repeat (first | (with_reducible first | exact HB.out | apply below_alloc | apply pw_below_drewN | apply below_drew1) | exact HB.out)⟩
          · rw [if_neg c18] at H
            have c18b0 : (a0 == 0) = false := beq_eq_false_iff_ne.mpr c18
            have c18b1 : (a0 != 0) = true := bne_iff_ne.mpr c18
            by_cases c29 : t278 = 0
            · rw [if_pos c29] at H
              have c29b0 : (t278 == 0) = true := beq_iff_eq.mpr c29
              have c29b1 : (t278 != 0) = false := bne_eq_false_iff_eq.mpr c29
              clear c29
              by_cases c30 : t280 = 0
              · rw [if_pos c30] at H
                have c30b0 : (t280 == 0) = true := beq_iff_eq.mpr c30
                have c30b1 : (t280 != 0) = false := bne_eq_false_iff_eq.mpr c30
                clear c30
                by_cases c31 : t282 = 0
                · rw [if_pos c31] at H
                  have c31b0 : (t282 == 0) = true := beq_iff_eq.mpr c31
                  have c31b1 : (t282 != 0) = false := bne_eq_false_iff_eq.mpr c31
                  clear c31
                  replace H := Option.bind_eq_some_iff.mp H
                  obtain ⟨t288, A320, H⟩ := H
                  replace H : (if t277 = t288 then ((kinkeepref02_Log.f kj7 a0).bind fun t289 => (if t279 = t289 then ((kinkeepref02_Order.f kj7 a0).bind fun t290 => (some (t281 == t290))) else (some false))) else (some false)) = some r := H
                  have A32 := Aside0.mk A320
                  clear A320
                  by_cases c33 : t277 = t288
                  · rw [if_pos c33] at H
                    have c33b0 : (t277 == t288) = true := beq_iff_eq.mpr c33
                    have c33b1 : (t277 != t288) = false := bne_eq_false_iff_eq.mpr c33
                    clear c33
                    replace H := Option.bind_eq_some_iff.mp H
                    obtain ⟨t289, A340, H⟩ := H
                    replace H : (if t279 = t289 then ((kinkeepref02_Order.f kj7 a0).bind fun t290 => (some (t281 == t290))) else (some false)) = some r := H
                    have A34 := Aside0.mk A340
                    clear A340
                    by_cases c35 : t279 = t289
                    · rw [if_pos c35] at H
                      have c35b0 : (t279 == t289) = true := beq_iff_eq.mpr c35
                      have c35b1 : (t279 != t289) = false := bne_eq_false_iff_eq.mpr c35
                      clear c35
                      replace H := Option.bind_eq_some_iff.mp H
                      obtain ⟨t290, A360, H⟩ := H
                      replace H : (some (t281 == t290)) = some r := H
                      have A36 := Aside0.mk A360
                      clear A360
                      obtain rfl := Option.some.inj H
                      go_wp2_with (first | (go_at_call 29; (with_reducible refine (kinkeepref02_Pow.calls kj7 a0 a1 t288 _ A32.out).mono ?_); rintro e w' ⟨rfl, ⟨nd, rfl⟩⟩) | (go_at_call 31; (with_reducible refine (kinkeepref02_Log.calls kj7 a0 t289 _ A34.out).mono ?_); rintro e w' ⟨rfl, ⟨nd, rfl⟩⟩) | (go_at_call 32; (with_reducible refine (kinkeepref02_Order.calls kj7 a0 t290 _ A36.out).mono ?_); rintro e w' ⟨rfl, ⟨nd, rfl⟩⟩))
                      go_ret
                      exact ⟨by first | rfl | (simp [errW_none, errW_some] <;> rfl) | (simp [*, errW_none, errW_some] <;> rfl), by repeat (first | (with_reducible first | exact HB.out | apply below_alloc | apply pw_below_drewN | apply below_drew1) | exact HB.out)⟩
                    · rw [if_neg c35] at H
                      have c35b0 : (t279 == t289) = false := beq_eq_false_iff_ne.mpr c35
                      have c35b1 : (t279 != t289) = true := bne_iff_ne.mpr c35
                      obtain rfl := Option.some.inj H
                      go_wp2_with (first | (go_at_call 29; (with_reducible refine (kinkeepref02_Pow.calls kj7 a0 a1 t288 _ A32.out).mono ?_); rintro e w' ⟨rfl, ⟨nd, rfl⟩⟩) | (go_at_call 31; (with_reducible refine (kinkeepref02_Log.calls kj7 a0 t289 _ A34.out).mono ?_); rintro e w' ⟨rfl, ⟨nd, rfl⟩⟩))
                      go_ret
                      exact ⟨by first | rfl | (simp [errW_none, errW_some] <;> rfl) | (simp [*, errW_none, errW_some] <;> rfl), by repeat (first | (with_reducible first | exact HB.out | apply below_alloc | apply pw_below_drewN | apply below_drew1) | exact HB.out)⟩
                  · rw [if_neg c33] at H
                    have c33b0 : (t277 == t288) = false := beq_eq_false_iff_ne.mpr c33
                    have c33b1 : (t277 != t288) = true := bne_iff_ne.mpr c33
                    obtain rfl := Option.some.inj H
                    go_wp2_with (first | (go_at_call 29; (with_reducible refine (kinkeepref02_Pow.calls kj7 a0 a1 t288 _ A32.out).mono ?_); rintro e w' ⟨rfl, ⟨nd, rfl⟩⟩))
                    go_ret
                    exact ⟨by first | rfl | (simp [errW_none, errW_some] <;> rfl) | (simp [*, errW_none, errW_some] <;> rfl), by repeat (first | (with_reducible first | exact HB.out | apply below_alloc | apply pw_below_drewN | apply below_drew1) | exact HB.out)⟩
                · rw [if_neg c31] at H
                  have c31b0 : (t282 == 0) = false := beq_eq_false_iff_ne.mpr c31
                  have c31b1 : (t282 != 0) = true := bne_iff_ne.mpr c31
                  obtain rfl := Option.some.inj H
                  go_wp2
                  go_ret
                  exact ⟨by first | rfl | (simp [errW_none, errW_some] <;> rfl) | (simp [*, errW_none, errW_some] <;> rfl), by repeat (first | (with_reducible first | exact HB.out | apply below_alloc | apply pw_below_drewN | apply below_drew1) | exact HB.out)⟩
              · rw [if_neg c30] at H
                have c30b0 : (t280 == 0) = false := beq_eq_false_iff_ne.mpr c30
                have c30b1 : (t280 != 0) = true := bne_iff_ne.mpr c30
                obtain rfl := Option.some.inj H
                go_wp2
                go_ret
                exact ⟨by first | rfl | (simp [errW_none, errW_some] <;> rfl) | (simp [*, errW_none, errW_some] <;> rfl), by repeat (first | (with_reducible first | exact HB.out | apply below_alloc | apply pw_below_drewN | apply below_drew1) | exact HB.out)⟩
            · rw [if_neg c29] at H
              have c29b0 : (t278 == 0) = false := beq_eq_false_iff_ne.mpr c29
              have c29b1 : (t278 != 0) = true := bne_iff_ne.mpr c29
              obtain rfl := Option.some.inj H
              go_wp2
              go_ret
              exact ⟨by first | rfl | (simp [errW_none, errW_some] <;> rfl) | (simp [*, errW_none, errW_some] <;> rfl), by repeat (first | (with_reducible first | exact HB.out | apply below_alloc | apply pw_below_drewN | apply below_drew1) | exact HB.out)⟩
  · replace c4 := Bool.eq_false_iff.mpr c4
    subst c4
    have H1 : (some false) = some r := by rw [if_neg (show ¬ (false = true) by decide)] at H; exact H
    clear H
    have H := H1
    clear H1
    obtain rfl := Option.some.inj H
    go_enter Try.func10, Try.ntmps10
    go_wp2_with (first | ((with_reducible refine gate_callee (f := 11) rfl ?_); refine goesL_ (some 11) rfl rfl Try.func11 (by kernel_rfl) rfl #[] rfl (by (try simp only [List.map_toArray, List.map_cons, List.map_nil]); first | done | rfl | (simp only [List.length_drop, List.length_take]; rfl)) ?_; (with_reducible refine (kinkeeplaw02_awake.calls k  false _ A3.out).mono ?_); rintro e w37 ⟨rfl, hb⟩; refine ⟨_, rfl, ?_⟩; have n0_ := Aside0.mk (below_step (by repeat (first | (with_reducible first | exact HB.out | apply below_alloc | apply pw_below_drewN | apply below_drew1) | exact HB.out)) hb); clear HB; have HB := n0_; clear n0_; (try clear hb); (try clear hb2); (try clear hk); (try clear hi)))
    go_ret
    exact ⟨by first | rfl | (simp [errW_none, errW_some] <;> rfl) | (simp [*, errW_none, errW_some] <;> rfl), by repeat (first | (with_reducible first | exact HB.out | apply below_alloc | apply pw_below_drewN | apply below_drew1) | exact HB.out)⟩

/-- THE ONE PURE STATEMENT of kinkeeplaw02_Gf256Powers: yours. -/
def kinkeeplaw02_Gf256Powers.Pure : Prop := ∀ (a0 : Int) (a1 : Int), (Lit.int .u8 a0).wf = true → (Lit.int .i64 a1).wf = true → ∃ k, kinkeeplaw02_Gf256Powers.f k a0 a1 = some true
theorem kinkeeplaw02_Gf256Powers.walk (P : kinkeeplaw02_Gf256Powers.Pure) (a0 : Int) (a1 : Int) (w : World) (w0 : (Lit.int .u8 a0).wf = true) (w1 : (Lit.int .i64 a1).wf = true) :
    Calls Try.prog 10 #[.int .u8 a0, .int .i64 a1] w fun e w' => e = .returned (.bool true) ∧ Below w.heap.size w w' := by
  obtain ⟨k, h⟩ := P a0 a1 w0 w1
  refine (kinkeeplaw02_Gf256Powers.calls k a0 a1 true w h).mono ?_
  rintro e w' ⟨rfl, hd⟩
  exact ⟨rfl, hd⟩

end Go.Proofs.Ytaagfllcfkjkgaa.PG
