-- Written by a program of this session (a patched copy of the kit's print.py, over given contracts proved by hand). Lean checks it.
import Derived.Test.YtaagfllcfkjkgaaPGx0
import Derived.Test.YtaagfllcfkjkgaaPGx1
import Derived.Test.YtaagfllcfkjkgaaPGx7
namespace Go.Proofs.Ytaagfllcfkjkgaa.PG
open Go.RowKit Go.Proofs.YtaagfllcfkjkgaaW.PrintWords Go.Proofs.YtaagfllcfkjkgaaW.PrintLast Go.Proofs.YtaagfllcfkjkgaaW.PrintMore
attribute [local go_sem] max2_int min2_int max_two min_two max_three min_three max_four min_four   -- for this text's walks alone
set_option linter.unusedVariables false
set_option linter.unusedSimpArgs false

/-! ### kinkeeplaw02_Gf256Doubles: function 3 -/
def kinkeeplaw02_Gf256Doubles.j0 : Nat → Int → Int → Int → Option (Bool)
  | 0, _, _, _ => none
  | k + 1, x0, x1, x5 => (gf256_Mul.f k 2 x1).bind fun t132 => ((gf256_Mul.f k 2 x0).bind fun t133 => (if t133 = x5 then ((gf256_Mul.f k x0 t132).bind fun t134 => ((gf256_Mul.f k x5 x1).bind fun t135 => (some (t134 == t135)))) else (some false)))
def kinkeeplaw02_Gf256Doubles.f (k : Nat) (a0 : Int) (a1 : Int) : Option (Bool) := (kinkeeplaw02_awake.f k).bind fun t131 => (if t131 = true then (if a0 ≥ 128 then (kinkeeplaw02_Gf256Doubles.j0 k a0 a1 (Go.bits .xor .u8 ((a0 * 2) % 256) 29)) else (kinkeeplaw02_Gf256Doubles.j0 k a0 a1 ((a0 * 2) % 256))) else (some false))
theorem kinkeeplaw02_Gf256Doubles.mono_l : ∀ k, (∀ y0 y1 y2, LeO (kinkeeplaw02_Gf256Doubles.j0 k y0 y1 y2) (kinkeeplaw02_Gf256Doubles.j0 (k + 1) y0 y1 y2))
  | 0 => fun _ _ _ r h => by simp [kinkeeplaw02_Gf256Doubles.j0] at h
  | k + 1 => by
    have ih0 := kinkeeplaw02_Gf256Doubles.mono_l k
    · intro y0 y1 y2
      unfold kinkeeplaw02_Gf256Doubles.j0
      repeat' first
      | (with_reducible exact ih0 _ _ _)
      | (with_reducible exact gf256_Mul.mono _ _ _)
      | (with_reducible exact kinkeeplaw02_awake.mono _)
      | (with_reducible exact LeO.refl _)
      | (with_reducible exact LeO.none _)
      | (with_reducible refine LeO.ite ?_ ?_)
      | (with_reducible refine LeO.bind ?_ (fun _ => ?_))
      | exact ih0 _ _ _
      | exact gf256_Mul.mono _ _ _
      | exact kinkeeplaw02_awake.mono _
      | exact LeO.none _
      | refine LeO.ite ?_ ?_
      | refine LeO.bind ?_ (fun _ => ?_)
theorem kinkeeplaw02_Gf256Doubles.mono : ∀ a0 a1 k, LeO (kinkeeplaw02_Gf256Doubles.f k a0 a1) (kinkeeplaw02_Gf256Doubles.f (k + 1) a0 a1) := by
  intro a0 a1 k
  have ih0 := kinkeeplaw02_Gf256Doubles.mono_l k
  unfold kinkeeplaw02_Gf256Doubles.f
  repeat' first
      | (with_reducible exact ih0 _ _ _)
      | (with_reducible exact gf256_Mul.mono _ _ _)
      | (with_reducible exact kinkeeplaw02_awake.mono _)
      | (with_reducible exact LeO.refl _)
      | (with_reducible exact LeO.none _)
      | (with_reducible refine LeO.ite ?_ ?_)
      | (with_reducible refine LeO.bind ?_ (fun _ => ?_))
      | exact ih0 _ _ _
      | exact gf256_Mul.mono _ _ _
      | exact kinkeeplaw02_awake.mono _
      | exact LeO.none _
      | refine LeO.ite ?_ ?_
      | refine LeO.bind ?_ (fun _ => ?_)
set_option maxHeartbeats 8000000 in
set_option maxRecDepth 100000 in
theorem kinkeeplaw02_Gf256Doubles.calls (k : Nat) (a0 : Int) (a1 : Int) (r : Bool) (w : World) (h : kinkeeplaw02_Gf256Doubles.f k a0 a1 = some r) :
    Calls Try.prog 3 #[.int .u8 a0, .int .u8 a1] w fun e w' => e = .returned (.bool r) ∧ Below w.heap.size w w' := by
  have HB := Aside0.mk (Below.refl w.heap.size w)
  have H : ((kinkeeplaw02_awake.f k).bind fun t131 => (if t131 = true then (if a0 ≥ 128 then (kinkeeplaw02_Gf256Doubles.j0 k a0 a1 (Go.bits .xor .u8 ((a0 * 2) % 256) 29)) else (kinkeeplaw02_Gf256Doubles.j0 k a0 a1 ((a0 * 2) % 256))) else (some false))) = some r := h
  clear h
  replace H := Option.bind_eq_some_iff.mp H
  obtain ⟨t131, A30, H⟩ := H
  replace H : (if t131 = true then (if a0 ≥ 128 then (kinkeeplaw02_Gf256Doubles.j0 k a0 a1 (Go.bits .xor .u8 ((a0 * 2) % 256) 29)) else (kinkeeplaw02_Gf256Doubles.j0 k a0 a1 ((a0 * 2) % 256))) else (some false)) = some r := H
  have A3 := Aside0.mk A30
  clear A30
  by_cases c4 : t131 = true
  · subst c4
    have H1 : (if a0 ≥ 128 then (kinkeeplaw02_Gf256Doubles.j0 k a0 a1 (Go.bits .xor .u8 ((a0 * 2) % 256) 29)) else (kinkeeplaw02_Gf256Doubles.j0 k a0 a1 ((a0 * 2) % 256))) = some r := by rw [if_pos rfl] at H; exact H
    clear H
    have H := H1
    clear H1
    have HC5 := Aside0.mk H
    clear H
    go_enter Try.func3, Try.ntmps3
    go_upto_if 12 with (first | ((with_reducible refine gate_callee (f := 11) rfl ?_); refine goesL_ (some 7) rfl rfl Try.func11 (by kernel_rfl) rfl #[] rfl (by (try simp only [List.map_toArray, List.map_cons, List.map_nil]); first | done | rfl | (simp only [List.length_drop, List.length_take]; rfl)) ?_; (with_reducible refine (kinkeeplaw02_awake.calls k  true _ A3.out).mono ?_); rintro e w6 ⟨rfl, hb⟩; refine ⟨_, rfl, ?_⟩; have n0_ := Aside0.mk (below_step (by repeat (first | (with_reducible first | exact HB.out | apply below_alloc | apply pw_below_drewN | apply below_drew1) | exact HB.out)) hb); clear HB; have HB := n0_; clear n0_; (try clear hb); (try clear hb2); (try clear hk); (try clear hi)))
    (try simp only [Act.put, List.setIfInBounds_toArray, List.set_cons_zero, List.set_cons_succ])
    go_cut [5] (fun v5 wc => ∃ (kq : Nat) (x5_4 : Int), v5 = .int .u8 x5_4 ∧ Aside0 (kinkeeplaw02_Gf256Doubles.j0 kq a0 a1 x5_4 = some r) ∧ Aside0 (kq ≤ k) ∧ Aside0 (Below w.heap.size w wc))
    case first =>
      have H := HC5.out
      clear HC5
      by_cases c7 : a0 ≥ 128
      · rw [if_pos c7] at H
        have c7b0 : decide (128 ≤ a0) = true := decide_eq_true c7
        clear c7
        (first | rw [c7b0] | (simp only [i64_w, i32_w]; rw [c7b0]) | skip)
        have H' := Aside0.mk H
        clear H
        go_wp2
        go_meet
        case rel => exact ⟨_, (Go.bits .xor .u8 ((a0 * 2) % 256) 29), (by first | rfl | (simp; done) | (simp [*]; done)), H', ⟨by first | omega | exact Nat.le_refl _⟩, ⟨by repeat (first | (with_reducible first | exact HB.out | apply below_alloc | apply pw_below_drewN | apply below_drew1) | exact HB.out)⟩⟩
      · rw [if_neg c7] at H
        have c7b0 : decide (128 ≤ a0) = false := decide_eq_false c7
        clear c7
        (first | rw [c7b0] | (simp only [i64_w, i32_w]; rw [c7b0]) | skip)
        have H' := Aside0.mk H
        clear H
        go_wp2
        go_meet
        case rel => exact ⟨_, ((a0 * 2) % 256), (by first | rfl | (simp; done) | (simp [*]; done)), H', ⟨by first | omega | exact Nat.le_refl _⟩, ⟨by repeat (first | (with_reducible first | exact HB.out | apply below_alloc | apply pw_below_drewN | apply below_drew1) | exact HB.out)⟩⟩
    case rest =>
      clear HC5
      try clear c1
      try clear p2
      try clear c3
      try clear c4
      try clear c7
      try clear c7b0
      obtain ⟨kq, x5_4, rfl, HA, HJ4, HB⟩ := hcut
      cases kq with
      | zero => exact absurd HA.out (by simp [kinkeeplaw02_Gf256Doubles.j0])
      | succ kj4 =>
        have H := HA.out
        clear HA
        simp only [kinkeeplaw02_Gf256Doubles.j0] at H
        replace H := Option.bind_eq_some_iff.mp H
        obtain ⟨t132, A80, H⟩ := H
        replace H : ((gf256_Mul.f kj4 2 a0).bind fun t133 => (if t133 = x5_4 then ((gf256_Mul.f kj4 a0 t132).bind fun t134 => ((gf256_Mul.f kj4 x5_4 a1).bind fun t135 => (some (t134 == t135)))) else (some false))) = some r := H
        have A8 := Aside0.mk A80
        clear A80
        replace H := Option.bind_eq_some_iff.mp H
        obtain ⟨t133, A90, H⟩ := H
        replace H : (if t133 = x5_4 then ((gf256_Mul.f kj4 a0 t132).bind fun t134 => ((gf256_Mul.f kj4 x5_4 a1).bind fun t135 => (some (t134 == t135)))) else (some false)) = some r := H
        have A9 := Aside0.mk A90
        clear A90
        by_cases c10 : t133 = x5_4
        · rw [if_pos c10] at H
          have c10b0 : (t133 == x5_4) = true := beq_iff_eq.mpr c10
          have c10b1 : (t133 != x5_4) = false := bne_eq_false_iff_eq.mpr c10
          clear c10
          replace H := Option.bind_eq_some_iff.mp H
          obtain ⟨t134, A110, H⟩ := H
          replace H : ((gf256_Mul.f kj4 x5_4 a1).bind fun t135 => (some (t134 == t135))) = some r := H
          have A11 := Aside0.mk A110
          clear A110
          replace H := Option.bind_eq_some_iff.mp H
          obtain ⟨t135, A120, H⟩ := H
          replace H : (some (t134 == t135)) = some r := H
          have A12 := Aside0.mk A120
          clear A120
          obtain rfl := Option.some.inj H
          go_wp2_with (first | ((with_reducible refine gate_callee (f := 12) rfl ?_); refine goesL_ (some 16) rfl rfl Try.func12 (by kernel_rfl) rfl #[.int .u8 2, .int .u8 a1] rfl (by (try simp only [List.map_toArray, List.map_cons, List.map_nil]); first | done | rfl | (simp only [List.length_drop, List.length_take]; rfl)) ?_; (with_reducible refine (gf256_Mul.calls kj4 2 a1 t132 _ A8.out).mono ?_); rintro e w' ⟨rfl, ⟨nd, rfl⟩⟩; refine ⟨_, rfl, ?_⟩) | ((with_reducible refine gate_callee (f := 12) rfl ?_); refine goesL_ (some 18) rfl rfl Try.func12 (by kernel_rfl) rfl #[.int .u8 2, .int .u8 a0] rfl (by (try simp only [List.map_toArray, List.map_cons, List.map_nil]); first | done | rfl | (simp only [List.length_drop, List.length_take]; rfl)) ?_; (with_reducible refine (gf256_Mul.calls kj4 2 a0 t133 _ A9.out).mono ?_); rintro e w' ⟨rfl, ⟨nd, rfl⟩⟩; refine ⟨_, rfl, ?_⟩) | (go_at_call 12; (with_reducible refine (gf256_Mul.calls kj4 a0 t132 t134 _ A11.out).mono ?_); rintro e w' ⟨rfl, ⟨nd, rfl⟩⟩) | (go_at_call 12; (with_reducible refine (gf256_Mul.calls kj4 x5_4 a1 t135 _ A12.out).mono ?_); rintro e w' ⟨rfl, ⟨nd, rfl⟩⟩))
          go_ret
          exact ⟨by first | rfl | (simp [errW_none, errW_some] <;> rfl) | (simp [*, errW_none, errW_some] <;> rfl), by repeat (first | (with_reducible first | exact HB.out | apply below_alloc | apply pw_below_drewN | apply below_drew1) | exact HB.out)⟩
        · rw [if_neg c10] at H
          have c10b0 : (t133 == x5_4) = false := beq_eq_false_iff_ne.mpr c10
          have c10b1 : (t133 != x5_4) = true := bne_iff_ne.mpr c10
          obtain rfl := Option.some.inj H
          go_wp2_with (first | ((with_reducible refine gate_callee (f := 12) rfl ?_); refine goesL_ (some 16) rfl rfl Try.func12 (by kernel_rfl) rfl #[.int .u8 2, .int .u8 a1] rfl (by (try simp only [List.map_toArray, List.map_cons, List.map_nil]); first | done | rfl | (simp only [List.length_drop, List.length_take]; rfl)) ?_; (with_reducible refine (gf256_Mul.calls kj4 2 a1 t132 _ A8.out).mono ?_); rintro e w' ⟨rfl, ⟨nd, rfl⟩⟩; refine ⟨_, rfl, ?_⟩) | ((with_reducible refine gate_callee (f := 12) rfl ?_); refine goesL_ (some 18) rfl rfl Try.func12 (by kernel_rfl) rfl #[.int .u8 2, .int .u8 a0] rfl (by (try simp only [List.map_toArray, List.map_cons, List.map_nil]); first | done | rfl | (simp only [List.length_drop, List.length_take]; rfl)) ?_; (with_reducible refine (gf256_Mul.calls kj4 2 a0 t133 _ A9.out).mono ?_); rintro e w' ⟨rfl, ⟨nd, rfl⟩⟩; refine ⟨_, rfl, ?_⟩))
          go_ret
          exact ⟨by first | rfl | (simp [errW_none, errW_some] <;> rfl) | (simp [*, errW_none, errW_some] <;> rfl), by repeat (first | (with_reducible first | exact HB.out | apply below_alloc | apply pw_below_drewN | apply below_drew1) | exact HB.out)⟩
  · replace c4 := Bool.eq_false_iff.mpr c4
    subst c4
    have H1 : (some false) = some r := by rw [if_neg (show ¬ (false = true) by decide)] at H; exact H
    clear H
    have H := H1
    clear H1
    obtain rfl := Option.some.inj H
    go_enter Try.func3, Try.ntmps3
    go_wp2_with (first | ((with_reducible refine gate_callee (f := 11) rfl ?_); refine goesL_ (some 7) rfl rfl Try.func11 (by kernel_rfl) rfl #[] rfl (by (try simp only [List.map_toArray, List.map_cons, List.map_nil]); first | done | rfl | (simp only [List.length_drop, List.length_take]; rfl)) ?_; (with_reducible refine (kinkeeplaw02_awake.calls k  false _ A3.out).mono ?_); rintro e w13 ⟨rfl, hb⟩; refine ⟨_, rfl, ?_⟩; have n0_ := Aside0.mk (below_step (by repeat (first | (with_reducible first | exact HB.out | apply below_alloc | apply pw_below_drewN | apply below_drew1) | exact HB.out)) hb); clear HB; have HB := n0_; clear n0_; (try clear hb); (try clear hb2); (try clear hk); (try clear hi)))
    go_ret
    exact ⟨by first | rfl | (simp [errW_none, errW_some] <;> rfl) | (simp [*, errW_none, errW_some] <;> rfl), by repeat (first | (with_reducible first | exact HB.out | apply below_alloc | apply pw_below_drewN | apply below_drew1) | exact HB.out)⟩

/-- THE ONE PURE STATEMENT of kinkeeplaw02_Gf256Doubles: yours. -/
def kinkeeplaw02_Gf256Doubles.Pure : Prop := ∀ (a0 : Int) (a1 : Int), (Lit.int .u8 a0).wf = true → (Lit.int .u8 a1).wf = true → ∃ k, kinkeeplaw02_Gf256Doubles.f k a0 a1 = some true
theorem kinkeeplaw02_Gf256Doubles.walk (P : kinkeeplaw02_Gf256Doubles.Pure) (a0 : Int) (a1 : Int) (w : World) (w0 : (Lit.int .u8 a0).wf = true) (w1 : (Lit.int .u8 a1).wf = true) :
    Calls Try.prog 3 #[.int .u8 a0, .int .u8 a1] w fun e w' => e = .returned (.bool true) ∧ Below w.heap.size w w' := by
  obtain ⟨k, h⟩ := P a0 a1 w0 w1
  refine (kinkeeplaw02_Gf256Doubles.calls k a0 a1 true w h).mono ?_
  rintro e w' ⟨rfl, hd⟩
  exact ⟨rfl, hd⟩

end Go.Proofs.Ytaagfllcfkjkgaa.PG
