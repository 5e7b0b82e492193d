-- Written by a program of this session (a patched copy of the kit's print.py, over given contracts proved by hand). Lean checks it.
import Derived.Test.YtadcoeinnomjlaaPGx0
namespace Go.Proofs.Ytadcoeinnomjlaa.PG
open Go.RowKit Go.Proofs.YtadcoeinnomjlaaW.PrintWords Go.Proofs.YtadcoeinnomjlaaW.PrintLast Go.Proofs.YtadcoeinnomjlaaW.PrintMore
attribute [local go_sem] max2_int min2_int max_two min_two max_three min_three max_four min_four   -- for this text's walks alone
set_option linter.unusedVariables false
set_option linter.unusedSimpArgs false

/-! ### kinkeeptop_a16Same: function 7 -/
def kinkeeptop_a16Same.l0 : Nat → List (S39) → List (S39) → Int → Int → Option (Bool)
  | 0, _, _, _, _ => none
  | k + 1, x0, x1, x12, x13 => if x13 < x12 then (if 0 ≤ x13 then (if x13 < (x0.length : Int) then (if x13 < (x1.length : Int) then (if ((rd_T39 x0 x13).f0) = ((rd_T39 x1 x13).f0) then (if (strOfNums ((rd_T39 x0 x13).f1)).toList = (strOfNums ((rd_T39 x1 x13).f1)).toList then (kinkeeptop_a16Same.l0 k x0 x1 x12 (wrap64 (x13 + 1))) else (some false)) else (some false)) else (none)) else (none)) else (none)) else (some true)
def kinkeeptop_a16Same.f (k : Nat) (l0 : List (S39)) (l1 : List (S39)) : Option (Bool) := if (l0.length : Int) = (l1.length : Int) then (kinkeeptop_a16Same.l0 k l0 l1 (l0.length : Int) 0) else (some false)
theorem kinkeeptop_a16Same.mono_l : ∀ k, (∀ y0 y1 y2 y3, LeO (kinkeeptop_a16Same.l0 k y0 y1 y2 y3) (kinkeeptop_a16Same.l0 (k + 1) y0 y1 y2 y3))
  | 0 => fun _ _ _ _ r h => by simp [kinkeeptop_a16Same.l0] at h
  | k + 1 => by
    have ih0 := kinkeeptop_a16Same.mono_l k
    · intro y0 y1 y2 y3
      unfold kinkeeptop_a16Same.l0
      repeat' first
      | (with_reducible exact ih0 _ _ _ _)
      | (with_reducible exact LeO.refl _)
      | (with_reducible exact LeO.none _)
      | (with_reducible refine LeO.ite ?_ ?_)
      | (with_reducible refine LeO.bind ?_ (fun _ => ?_))
      | exact ih0 _ _ _ _
      | exact LeO.none _
      | refine LeO.ite ?_ ?_
      | refine LeO.bind ?_ (fun _ => ?_)
theorem kinkeeptop_a16Same.mono : ∀ a0 a1 k, LeO (kinkeeptop_a16Same.f k a0 a1) (kinkeeptop_a16Same.f (k + 1) a0 a1) := by
  intro a0 a1 k
  have ih0 := kinkeeptop_a16Same.mono_l k
  unfold kinkeeptop_a16Same.f
  repeat' first
      | (with_reducible exact ih0 _ _ _ _)
      | (with_reducible exact LeO.refl _)
      | (with_reducible exact LeO.none _)
      | (with_reducible refine LeO.ite ?_ ?_)
      | (with_reducible refine LeO.bind ?_ (fun _ => ?_))
      | exact ih0 _ _ _ _
      | exact LeO.none _
      | refine LeO.ite ?_ ?_
      | refine LeO.bind ?_ (fun _ => ?_)
set_option maxHeartbeats 8000000 in
set_option maxRecDepth 100000 in
theorem kinkeeptop_a16Same.calls (k : Nat) (A0 : Option Addr) (c0 : Nat) (l0 : List (S39)) (A1 : Option Addr) (c1 : Nat) (l1 : List (S39)) (r : Bool) (w : World) (hr0 : Kd.C k39 w A0 l0.length l0) (hc0 : l0.length ≤ c0) (hr1 : Kd.C k39 w A1 l1.length l1) (hc1 : l1.length ≤ c1) (h : kinkeeptop_a16Same.f k l0 l1 = some r) :
    Calls Try.prog 7 #[.slice A0 l0.length c0, .slice A1 l1.length c1] w fun e w' => e = .returned (.bool r) ∧ Drawn0 w w' := by
  have HR0 := Aside0.mk hr0
  have HC0 := Aside0.mk hc0
  clear hr0 hc0
  have HR1 := Aside0.mk hr1
  have HC1 := Aside0.mk hc1
  clear hr1 hc1
  have H : (if (l0.length : Int) = (l1.length : Int) then (kinkeeptop_a16Same.l0 k l0 l1 (l0.length : Int) 0) else (some false)) = some r := h
  clear h
  by_cases c3 : (l0.length : Int) = (l1.length : Int)
  · rw [if_pos c3] at H
    have c3b0 : ((l0.length : Int) == (l1.length : Int)) = true := beq_iff_eq.mpr c3
    have c3b1 : ((l0.length : Int) != (l1.length : Int)) = false := bne_eq_false_iff_eq.mpr c3
    have c3b2 : (l0.length == l1.length) = true := by first | simpa using c3 | (simp at c3 ⊢; omega)
    clear c3
    have H' := Aside0.mk H
    clear H
    go_enter Try.func7, Try.ntmps7
    go_wp2
    repeat (go_quiet (fail); try go_wp2)
    go_loopg [13] k (fun kq v13 w' => ∃ (x13_1 : Int), v13 = .int .i64 x13_1 ∧ Aside0 (kinkeeptop_a16Same.l0 kq l0 l1 (l0.length : Int) x13_1 = some r) ∧ Aside0 (kq ≤ k) ∧ Drawn0 w w')
    case atStart => exact ⟨(0), (by first | rfl | (simp; done) | (simp [*]; done)), H', ⟨Nat.le_refl _⟩, by repeat (first | exact Drawn0.refl _ | apply Drawn0.step)⟩
    case round =>
      clear H'
      try clear c1
      try clear p2
      try clear c3
      try clear c3b0
      try clear c3b1
      try clear c3b2
      obtain ⟨x13_1, rfl, HA, HK1, ⟨m1, rfl⟩⟩ := hrel
      cases gk with
      | zero => exact absurd HA.out (by simp [kinkeeptop_a16Same.l0])
      | succ k1 =>
        have H := HA.out
        clear HA
        simp only [kinkeeptop_a16Same.l0] at H
        by_cases c4 : x13_1 < (l0.length : Int)
        · rw [if_pos c4] at H
          have c4b0 : decide (x13_1 < (l0.length : Int)) = true := decide_eq_true c4
          clear c4
          by_cases c5 : 0 ≤ x13_1
          · rw [if_pos c5] at H
            have c5b0 : decide (0 ≤ x13_1) = true := decide_eq_true c5
            clear c5
            by_cases c6 : x13_1 < (l0.length : Int)
            · rw [if_pos c6] at H
              have c6b0 : decide (x13_1 < (l0.length : Int)) = true := decide_eq_true c6
              clear c6
              by_cases c7 : x13_1 < (l1.length : Int)
              · rw [if_pos c7] at H
                have c7b0 : decide (x13_1 < (l1.length : Int)) = true := decide_eq_true c7
                clear c7
                by_cases c8 : ((rd_T39 l0 x13_1).f0) = ((rd_T39 l1 x13_1).f0)
                · rw [if_pos c8] at H
                  have c8b0 : (((rd_T39 l0 x13_1).f0) == ((rd_T39 l1 x13_1).f0)) = true := beq_iff_eq.mpr c8
                  have c8b1 : (((rd_T39 l0 x13_1).f0) != ((rd_T39 l1 x13_1).f0)) = false := bne_eq_false_iff_eq.mpr c8
                  clear c8
                  by_cases c9 : (strOfNums ((rd_T39 l0 x13_1).f1)).toList = (strOfNums ((rd_T39 l1 x13_1).f1)).toList
                  · rw [if_pos c9] at H
                    have c9b0 : ((strOfNums ((rd_T39 l0 x13_1).f1)).toList == (strOfNums ((rd_T39 l1 x13_1).f1)).toList) = true := beq_iff_eq.mpr c9
                    have c9b1 : ((strOfNums ((rd_T39 l0 x13_1).f1)).toList != (strOfNums ((rd_T39 l1 x13_1).f1)).toList) = false := bne_eq_false_iff_eq.mpr c9
                    clear c9
                    have H' := Aside0.mk H
                    clear H
                    have p198 : 0 ≤ (x13_1 : Int) := of_decide_eq_true (by first | (with_reducible assumption) | assumption)
                    have q198 : x13_1 < (l0.length : Int) := of_decide_eq_true (by first | (with_reducible assumption) | assumption)
                    obtain ⟨ad198, A198_1, c198_1, e198, hx198_0, hx198_1, hl198_1, hi198_1⟩ := at_T39 HR0.out x13_1 p198 q198
                    cases e198
                    have HR198_1 := Aside0.mk hi198_1
                    have HC198_1 := Aside0.mk hl198_1
                    clear hi198_1 hl198_1
                    replace p198 := eq_true p198
                    replace q198 := eq_true q198
                    have p199 : 0 ≤ (x13_1 : Int) := of_decide_eq_true (by first | (with_reducible assumption) | assumption)
                    have q199 : x13_1 < (l1.length : Int) := of_decide_eq_true (by first | (with_reducible assumption) | assumption)
                    obtain ⟨ad199, A199_1, c199_1, e199, hx199_0, hx199_1, hl199_1, hi199_1⟩ := at_T39 HR1.out x13_1 p199 q199
                    cases e199
                    have HR199_1 := Aside0.mk hi199_1
                    have HC199_1 := Aside0.mk hl199_1
                    clear hi199_1 hl199_1
                    replace p199 := eq_true p199
                    replace q199 := eq_true q199
                    have p200 : 0 ≤ (x13_1 : Int) := of_decide_eq_true (by first | (with_reducible assumption) | assumption)
                    have q200 : x13_1 < (l0.length : Int) := of_decide_eq_true (by first | (with_reducible assumption) | assumption)
                    obtain ⟨ad200, A200_1, c200_1, e200, hx200_0, hx200_1, hl200_1, hi200_1⟩ := at_T39 HR0.out x13_1 p200 q200
                    obtain rfl : ad198 = ad200 := (by injection e200)
                    have HR200_1 := Aside0.mk hi200_1
                    have HC200_1 := Aside0.mk hl200_1
                    clear hi200_1 hl200_1
                    replace p200 := eq_true p200
                    replace q200 := eq_true q200
                    have ea_ := Option.some.inj (hx198_1.symm.trans hx200_1)
                    injection ea_ with ea_ en_ ec_
                    subst ea_
                    subst ec_
                    clear en_
                    have hcv10a := fun n1 => Kd.C_string (w := w.drewN n1) (P := Try.prog) (A := A198_1) (c := c198_1) Try.underlying23 Try.underlying5 Try.underlying9 (Kd.C_drewN HR200_1.out n1)
                    have hcv10b := fun n1 n2 => Kd.C_string (w := (w.drewN n1).drewN n2) (P := Try.prog) (A := A198_1) (c := c198_1) Try.underlying23 Try.underlying5 Try.underlying9 (Kd.C_drewN (Kd.C_drewN HR200_1.out n1) n2)
                    have p201 : 0 ≤ (x13_1 : Int) := of_decide_eq_true (by first | (with_reducible assumption) | assumption)
                    have q201 : x13_1 < (l1.length : Int) := of_decide_eq_true (by first | (with_reducible assumption) | assumption)
                    obtain ⟨ad201, A201_1, c201_1, e201, hx201_0, hx201_1, hl201_1, hi201_1⟩ := at_T39 HR1.out x13_1 p201 q201
                    obtain rfl : ad199 = ad201 := (by injection e201)
                    have HR201_1 := Aside0.mk hi201_1
                    have HC201_1 := Aside0.mk hl201_1
                    clear hi201_1 hl201_1
                    replace p201 := eq_true p201
                    replace q201 := eq_true q201
                    have ea_ := Option.some.inj (hx199_1.symm.trans hx201_1)
                    injection ea_ with ea_ en_ ec_
                    subst ea_
                    subst ec_
                    clear en_
                    have hcv11a := fun n1 => Kd.C_string (w := w.drewN n1) (P := Try.prog) (A := A199_1) (c := c199_1) Try.underlying23 Try.underlying5 Try.underlying9 (Kd.C_drewN HR201_1.out n1)
                    have hcv11b := fun n1 n2 => Kd.C_string (w := (w.drewN n1).drewN n2) (P := Try.prog) (A := A199_1) (c := c199_1) Try.underlying23 Try.underlying5 Try.underlying9 (Kd.C_drewN (Kd.C_drewN HR201_1.out n1) n2)
                    go_wp2
                    repeat (go_quiet (fail); try go_wp2)
                    go_roundg k1
                    case measure => have := HK1.out; omega
                    case rel => exact ⟨(wrap64 (x13_1 + 1)), (by first | rfl | (simp; done) | (simp [*]; done)), H', ⟨by have := HK1.out; omega⟩, by repeat (first | exact Drawn0.refl _ | apply Drawn0.step)⟩
                  · rw [if_neg c9] at H
                    have c9b0 : ((strOfNums ((rd_T39 l0 x13_1).f1)).toList == (strOfNums ((rd_T39 l1 x13_1).f1)).toList) = false := beq_eq_false_iff_ne.mpr c9
                    have c9b1 : ((strOfNums ((rd_T39 l0 x13_1).f1)).toList != (strOfNums ((rd_T39 l1 x13_1).f1)).toList) = true := bne_iff_ne.mpr c9
                    obtain rfl := Option.some.inj H
                    have p198 : 0 ≤ (x13_1 : Int) := of_decide_eq_true (by first | (with_reducible assumption) | assumption)
                    have q198 : x13_1 < (l0.length : Int) := of_decide_eq_true (by first | (with_reducible assumption) | assumption)
                    obtain ⟨ad198, A198_1, c198_1, e198, hx198_0, hx198_1, hl198_1, hi198_1⟩ := at_T39 HR0.out x13_1 p198 q198
                    cases e198
                    have HR198_1 := Aside0.mk hi198_1
                    have HC198_1 := Aside0.mk hl198_1
                    clear hi198_1 hl198_1
                    replace p198 := eq_true p198
                    replace q198 := eq_true q198
                    have p199 : 0 ≤ (x13_1 : Int) := of_decide_eq_true (by first | (with_reducible assumption) | assumption)
                    have q199 : x13_1 < (l1.length : Int) := of_decide_eq_true (by first | (with_reducible assumption) | assumption)
                    obtain ⟨ad199, A199_1, c199_1, e199, hx199_0, hx199_1, hl199_1, hi199_1⟩ := at_T39 HR1.out x13_1 p199 q199
                    cases e199
                    have HR199_1 := Aside0.mk hi199_1
                    have HC199_1 := Aside0.mk hl199_1
                    clear hi199_1 hl199_1
                    replace p199 := eq_true p199
                    replace q199 := eq_true q199
                    have p200 : 0 ≤ (x13_1 : Int) := of_decide_eq_true (by first | (with_reducible assumption) | assumption)
                    have q200 : x13_1 < (l0.length : Int) := of_decide_eq_true (by first | (with_reducible assumption) | assumption)
                    obtain ⟨ad200, A200_1, c200_1, e200, hx200_0, hx200_1, hl200_1, hi200_1⟩ := at_T39 HR0.out x13_1 p200 q200
                    obtain rfl : ad198 = ad200 := (by injection e200)
                    have HR200_1 := Aside0.mk hi200_1
                    have HC200_1 := Aside0.mk hl200_1
                    clear hi200_1 hl200_1
                    replace p200 := eq_true p200
                    replace q200 := eq_true q200
                    have ea_ := Option.some.inj (hx198_1.symm.trans hx200_1)
                    injection ea_ with ea_ en_ ec_
                    subst ea_
                    subst ec_
                    clear en_
                    have hcv12a := fun n1 => Kd.C_string (w := w.drewN n1) (P := Try.prog) (A := A198_1) (c := c198_1) Try.underlying23 Try.underlying5 Try.underlying9 (Kd.C_drewN HR200_1.out n1)
                    have hcv12b := fun n1 n2 => Kd.C_string (w := (w.drewN n1).drewN n2) (P := Try.prog) (A := A198_1) (c := c198_1) Try.underlying23 Try.underlying5 Try.underlying9 (Kd.C_drewN (Kd.C_drewN HR200_1.out n1) n2)
                    have p201 : 0 ≤ (x13_1 : Int) := of_decide_eq_true (by first | (with_reducible assumption) | assumption)
                    have q201 : x13_1 < (l1.length : Int) := of_decide_eq_true (by first | (with_reducible assumption) | assumption)
                    obtain ⟨ad201, A201_1, c201_1, e201, hx201_0, hx201_1, hl201_1, hi201_1⟩ := at_T39 HR1.out x13_1 p201 q201
                    obtain rfl : ad199 = ad201 := (by injection e201)
                    have HR201_1 := Aside0.mk hi201_1
                    have HC201_1 := Aside0.mk hl201_1
                    clear hi201_1 hl201_1
                    replace p201 := eq_true p201
                    replace q201 := eq_true q201
                    have ea_ := Option.some.inj (hx199_1.symm.trans hx201_1)
                    injection ea_ with ea_ en_ ec_
                    subst ea_
                    subst ec_
                    clear en_
                    have hcv13a := fun n1 => Kd.C_string (w := w.drewN n1) (P := Try.prog) (A := A199_1) (c := c199_1) Try.underlying23 Try.underlying5 Try.underlying9 (Kd.C_drewN HR201_1.out n1)
                    have hcv13b := fun n1 n2 => Kd.C_string (w := (w.drewN n1).drewN n2) (P := Try.prog) (A := A199_1) (c := c199_1) Try.underlying23 Try.underlying5 Try.underlying9 (Kd.C_drewN (Kd.C_drewN HR201_1.out n1) n2)
                    go_wp2
                    repeat (go_quiet (fail); try go_wp2)
                    go_ret
                    exact ⟨by first | rfl | (simp; done) | (simp [*]; done), by repeat (first | exact Drawn0.refl _ | apply Drawn0.step)⟩
                · rw [if_neg c8] at H
                  have c8b0 : (((rd_T39 l0 x13_1).f0) == ((rd_T39 l1 x13_1).f0)) = false := beq_eq_false_iff_ne.mpr c8
                  have c8b1 : (((rd_T39 l0 x13_1).f0) != ((rd_T39 l1 x13_1).f0)) = true := bne_iff_ne.mpr c8
                  obtain rfl := Option.some.inj H
                  have p198 : 0 ≤ (x13_1 : Int) := of_decide_eq_true (by first | (with_reducible assumption) | assumption)
                  have q198 : x13_1 < (l0.length : Int) := of_decide_eq_true (by first | (with_reducible assumption) | assumption)
                  obtain ⟨ad198, A198_1, c198_1, e198, hx198_0, hx198_1, hl198_1, hi198_1⟩ := at_T39 HR0.out x13_1 p198 q198
                  cases e198
                  have HR198_1 := Aside0.mk hi198_1
                  have HC198_1 := Aside0.mk hl198_1
                  clear hi198_1 hl198_1
                  replace p198 := eq_true p198
                  replace q198 := eq_true q198
                  have p199 : 0 ≤ (x13_1 : Int) := of_decide_eq_true (by first | (with_reducible assumption) | assumption)
                  have q199 : x13_1 < (l1.length : Int) := of_decide_eq_true (by first | (with_reducible assumption) | assumption)
                  obtain ⟨ad199, A199_1, c199_1, e199, hx199_0, hx199_1, hl199_1, hi199_1⟩ := at_T39 HR1.out x13_1 p199 q199
                  cases e199
                  have HR199_1 := Aside0.mk hi199_1
                  have HC199_1 := Aside0.mk hl199_1
                  clear hi199_1 hl199_1
                  replace p199 := eq_true p199
                  replace q199 := eq_true q199
                  go_wp2
                  repeat (go_quiet (fail); try go_wp2)
                  go_ret
                  exact ⟨by first | rfl | (simp; done) | (simp [*]; done), by repeat (first | exact Drawn0.refl _ | apply Drawn0.step)⟩
              · rw [if_neg c7] at H
                exact absurd H (by simp)
            · rw [if_neg c6] at H
              exact absurd H (by simp)
          · rw [if_neg c5] at H
            exact absurd H (by simp)
        · rw [if_neg c4] at H
          have c4b0 : decide (x13_1 < (l0.length : Int)) = false := decide_eq_false c4
          clear c4
          obtain rfl := Option.some.inj H
          go_wp2
          repeat (go_quiet (fail); try go_wp2)
          go_ret
          exact ⟨by first | rfl | (simp; done) | (simp [*]; done), by repeat (first | exact Drawn0.refl _ | apply Drawn0.step)⟩
  · rw [if_neg c3] at H
    have c3b0 : ((l0.length : Int) == (l1.length : Int)) = false := beq_eq_false_iff_ne.mpr c3
    have c3b1 : ((l0.length : Int) != (l1.length : Int)) = true := bne_iff_ne.mpr c3
    have c3b2 : (l0.length == l1.length) = false := by first | simpa using c3 | (simp at c3 ⊢; omega)
    obtain rfl := Option.some.inj H
    go_enter Try.func7, Try.ntmps7
    go_wp2
    repeat (go_quiet (fail); try go_wp2)
    go_ret
    exact ⟨by first | rfl | (simp; done) | (simp [*]; done), by repeat (first | exact Drawn0.refl _ | apply Drawn0.step)⟩

end Go.Proofs.Ytadcoeinnomjlaa.PG
