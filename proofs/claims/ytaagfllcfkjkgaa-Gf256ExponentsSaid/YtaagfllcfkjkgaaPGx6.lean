-- Written by a program of this session (a patched copy of the kit's print.py, over given contracts proved by hand). Lean checks it.
import Derived.Test.YtaagfllcfkjkgaaPGx0
import Derived.Test.YtaagfllcfkjkgaaPGx5
namespace Go.Proofs.Ytaagfllcfkjkgaa.PG
open Go.RowKit Go.Proofs.YtaagfllcfkjkgaaW.PrintWords Go.Proofs.YtaagfllcfkjkgaaW.PrintLast Go.Proofs.YtaagfllcfkjkgaaW.PrintMore
attribute [local go_sem] max2_int min2_int max_two min_two max_three min_three max_four min_four   -- for this text's walks alone
set_option linter.unusedVariables false
set_option linter.unusedSimpArgs false

/-! ### gf256_Order: function 27 -/
def gf256_Order.l0 : Nat → Int → Int → Option (Int × Int)
  | 0, _, _ => none
  | k + 1, x4, x6 => if x4 > 0 then (if x4 = 0 then (none) else (gf256_Order.l0 k (Int.tmod x6 x4) x4)) else (if x6 = 0 then (none) else (some (wrap64 ((255 : Int) / x6), 0)))
def gf256_Order.f (k : Nat) (a0 : Int) : Option (Int × Int) := (gf256_Log.f a0).bind fun bt251 => (if bt251.2 = 0 then (gf256_Order.l0 k bt251.1 255) else (some (0, bt251.2)))
theorem gf256_Order.mono_l : ∀ k, (∀ y0 y1, LeO (gf256_Order.l0 k y0 y1) (gf256_Order.l0 (k + 1) y0 y1))
  | 0 => fun _ _ r h => by simp [gf256_Order.l0] at h
  | k + 1 => by
    have ih0 := gf256_Order.mono_l k
    · intro y0 y1
      unfold gf256_Order.l0
      repeat' first
      | (with_reducible exact ih0 _ _)
      | (with_reducible exact LeO.refl _)
      | (with_reducible exact LeO.none _)
      | (with_reducible refine LeO.ite ?_ ?_)
      | (with_reducible refine LeO.bind ?_ (fun _ => ?_))
      | exact ih0 _ _
      | exact LeO.none _
      | refine LeO.ite ?_ ?_
      | refine LeO.bind ?_ (fun _ => ?_)
theorem gf256_Order.mono : ∀ a0 k, LeO (gf256_Order.f k a0) (gf256_Order.f (k + 1) a0) := by
  intro a0 k
  have ih0 := gf256_Order.mono_l k
  unfold gf256_Order.f
  repeat' first
      | (with_reducible exact ih0 _ _)
      | (with_reducible exact LeO.refl _)
      | (with_reducible exact LeO.none _)
      | (with_reducible refine LeO.ite ?_ ?_)
      | (with_reducible refine LeO.bind ?_ (fun _ => ?_))
      | exact ih0 _ _
      | exact LeO.none _
      | refine LeO.ite ?_ ?_
      | refine LeO.bind ?_ (fun _ => ?_)
set_option maxHeartbeats 8000000 in
set_option maxRecDepth 100000 in
theorem gf256_Order.calls (k : Nat) (a0 : Int) (r1 : Int) (r2 : Int) (w : World) (h : gf256_Order.f k a0 = some (r1, r2)) :
    Calls Try.prog 27 #[.int .u8 a0] w fun e w' => e = .returned (.tuple #[.int .i64 r1, .int .i64 r2]) ∧ Below w.heap.size w w' := by
  have HB := Aside0.mk (Below.refl w.heap.size w)
  have H : ((gf256_Log.f a0).bind fun bt251 => (if bt251.2 = 0 then (gf256_Order.l0 k bt251.1 255) else (some (0, bt251.2)))) = some (r1, r2) := h
  clear h
  replace H := Option.bind_eq_some_iff.mp H
  obtain ⟨⟨t251, t252⟩, A20, H⟩ := H
  replace H : (if t252 = 0 then (gf256_Order.l0 k t251 255) else (some (0, t252))) = some (r1, r2) := H
  have A2 := Aside0.mk A20
  clear A20
  by_cases c3 : t252 = 0
  · rw [if_pos c3] at H
    have c3b0 : (t252 == 0) = true := beq_iff_eq.mpr c3
    have c3b1 : (t252 != 0) = false := bne_eq_false_iff_eq.mpr c3
    clear c3
    have H' := Aside0.mk H
    clear H
    go_enter Try.func27, Try.ntmps27
    go_wp2_with (first | (go_at_call 26; (with_reducible refine (gf256_Log.calls a0 t251 t252 _ A2.out).mono ?_); rintro e w4 ⟨rfl, hb⟩; have n0_ := Aside0.mk (below_step (by repeat (first | (with_reducible first | exact HB.out | apply below_alloc | apply pw_below_drewN | apply below_drew1) | exact HB.out)) hb); clear HB; have HB := n0_; clear n0_; (try clear hb); (try clear hb2); (try clear hk); (try clear hi)))
    repeat (go_quiet (first | (go_at_call 26; (with_reducible refine (gf256_Log.calls a0 t251 t252 _ A2.out).mono ?_); rintro e w4 ⟨rfl, hb⟩; have n0_ := Aside0.mk (below_step (by repeat (first | (with_reducible first | exact HB.out | apply below_alloc | apply pw_below_drewN | apply below_drew1) | exact HB.out)) hb); clear HB; have HB := n0_; clear n0_; (try clear hb); (try clear hb2); (try clear hk); (try clear hi))); try go_wp2_with (first | (go_at_call 26; (with_reducible refine (gf256_Log.calls a0 t251 t252 _ A2.out).mono ?_); rintro e w4 ⟨rfl, hb⟩; have n0_ := Aside0.mk (below_step (by repeat (first | (with_reducible first | exact HB.out | apply below_alloc | apply pw_below_drewN | apply below_drew1) | exact HB.out)) hb); clear HB; have HB := n0_; clear n0_; (try clear hb); (try clear hb2); (try clear hk); (try clear hi))))
    go_loopg [4, 6] k (fun kq v4 v6 w' => ∃ (x4_1 : Int) (x6_1 : Int), v4 = .int .i64 x4_1 ∧ v6 = .int .i64 x6_1 ∧ Aside0 (gf256_Order.l0 kq x4_1 x6_1 = some (r1, r2)) ∧ Aside0 (kq ≤ k) ∧ Aside0 (Below w.heap.size w w'))
    case atStart => exact ⟨(t251), (255), (by first | rfl | (simp [Int.tdiv_eq_ediv_of_nonneg]; done) | (simp; done) | (simp [*]; done)), (by first | rfl | (simp [Int.tdiv_eq_ediv_of_nonneg]; done) | (simp; done) | (simp [*]; done)), H', ⟨Nat.le_refl _⟩, ⟨by repeat (first | (with_reducible first | exact HB.out | apply below_alloc | apply pw_below_drewN | apply below_drew1) | exact HB.out)⟩⟩
    case round =>
      clear H'
      try clear c2
      try clear p2
      try clear c3
      try clear c3b0
      try clear c3b1
      obtain ⟨x4_1, x6_1, rfl, rfl, HA, HK1, HB⟩ := hrel
      cases gk with
      | zero => exact absurd HA.out (by simp [gf256_Order.l0])
      | succ k1 =>
        have H := HA.out
        clear HA
        simp only [gf256_Order.l0] at H
        by_cases c5 : x4_1 > 0
        · rw [if_pos c5] at H
          have c5b0 : decide (0 < x4_1) = true := decide_eq_true c5
          clear c5
          by_cases c6 : x4_1 = 0
          · rw [if_pos c6] at H
            exact absurd H (by simp)
          · rw [if_neg c6] at H
            have c6b0 : (x4_1 == 0) = false := beq_eq_false_iff_ne.mpr c6
            have c6b1 : (x4_1 != 0) = true := bne_iff_ne.mpr c6
            have H' := Aside0.mk H
            clear H
            go_wp2
            repeat (go_quiet (fail); try go_wp2)
            go_roundg k1
            case measure => have := HK1.out; omega
            case rel => exact ⟨(Int.tmod x6_1 x4_1), (x4_1), (by first | rfl | (simp [Int.tdiv_eq_ediv_of_nonneg]; done) | (simp; done) | (simp [*]; done)), (by first | rfl | (simp [Int.tdiv_eq_ediv_of_nonneg]; done) | (simp; done) | (simp [*]; done)), H', ⟨by have := HK1.out; omega⟩, ⟨by repeat (first | (with_reducible first | exact HB.out | apply below_alloc | apply pw_below_drewN | apply below_drew1) | exact HB.out)⟩⟩
        · rw [if_neg c5] at H
          have c5b0 : decide (0 < x4_1) = false := decide_eq_false c5
          clear c5
          by_cases c7 : x6_1 = 0
          · rw [if_pos c7] at H
            exact absurd H (by simp)
          · rw [if_neg c7] at H
            have c7b0 : (x6_1 == 0) = false := beq_eq_false_iff_ne.mpr c7
            have c7b1 : (x6_1 != 0) = true := bne_iff_ne.mpr c7
            simp only [Option.some.injEq, Prod.mk.injEq] at H
            obtain ⟨rfl, rfl⟩ := H
            go_wp2
            repeat (go_quiet (fail); try go_wp2)
            go_ret2
            exact ⟨by first | rfl | (simp [Int.tdiv_eq_ediv_of_nonneg]; done) | (simp [errW_none, errW_some] <;> rfl) | (simp [*, errW_none, errW_some] <;> rfl), by repeat (first | (with_reducible first | exact HB.out | apply below_alloc | apply pw_below_drewN | apply below_drew1) | exact HB.out)⟩
  · rw [if_neg c3] at H
    have c3b0 : (t252 == 0) = false := beq_eq_false_iff_ne.mpr c3
    have c3b1 : (t252 != 0) = true := bne_iff_ne.mpr c3
    simp only [Option.some.injEq, Prod.mk.injEq] at H
    obtain ⟨rfl, rfl⟩ := H
    go_enter Try.func27, Try.ntmps27
    go_wp2_with (first | (go_at_call 26; (with_reducible refine (gf256_Log.calls a0 t251 t252 _ A2.out).mono ?_); rintro e w8 ⟨rfl, hb⟩; have n0_ := Aside0.mk (below_step (by repeat (first | (with_reducible first | exact HB.out | apply below_alloc | apply pw_below_drewN | apply below_drew1) | exact HB.out)) hb); clear HB; have HB := n0_; clear n0_; (try clear hb); (try clear hb2); (try clear hk); (try clear hi)))
    repeat (go_quiet (first | (go_at_call 26; (with_reducible refine (gf256_Log.calls a0 t251 t252 _ A2.out).mono ?_); rintro e w8 ⟨rfl, hb⟩; have n0_ := Aside0.mk (below_step (by repeat (first | (with_reducible first | exact HB.out | apply below_alloc | apply pw_below_drewN | apply below_drew1) | exact HB.out)) hb); clear HB; have HB := n0_; clear n0_; (try clear hb); (try clear hb2); (try clear hk); (try clear hi))); try go_wp2_with (first | (go_at_call 26; (with_reducible refine (gf256_Log.calls a0 t251 t252 _ A2.out).mono ?_); rintro e w8 ⟨rfl, hb⟩; have n0_ := Aside0.mk (below_step (by repeat (first | (with_reducible first | exact HB.out | apply below_alloc | apply pw_below_drewN | apply below_drew1) | exact HB.out)) hb); clear HB; have HB := n0_; clear n0_; (try clear hb); (try clear hb2); (try clear hk); (try clear hi))))
    go_ret2
    exact ⟨by first | rfl | (simp [Int.tdiv_eq_ediv_of_nonneg]; done) | (simp [errW_none, errW_some] <;> rfl) | (simp [*, errW_none, errW_some] <;> rfl), by repeat (first | (with_reducible first | exact HB.out | apply below_alloc | apply pw_below_drewN | apply below_drew1) | exact HB.out)⟩

end Go.Proofs.Ytaagfllcfkjkgaa.PG
