-- Written by a program of this session (a patched copy of the kit's print.py, over given contracts proved by hand). Lean checks it.
import Derived.Test.YtjoiiclahcghbaaPGx0
import Derived.Test.YtjoiiclahcghbaaPGx16
import Derived.Test.YtjoiiclahcghbaaPGx19
import Derived.Test.YtjoiiclahcghbaaPGx20
import Derived.Test.YtjoiiclahcghbaaPGx22
import Derived.Test.YtjoiiclahcghbaaPGx25
import Derived.Test.YtjoiiclahcghbaaPGx26
import Derived.Test.YtjoiiclahcghbaaHand
namespace Go.Proofs.Ytjoiiclahcghbaa.PG
open Go.RowKit Go.Proofs.YtjoiiclahcghbaaW.PrintWords Go.Proofs.YtjoiiclahcghbaaW.PrintLast Go.Proofs.YtjoiiclahcghbaaW.PrintMore
attribute [local go_sem] max2_int min2_int max_two min_two max_three min_three max_four min_four   -- for this text's walks alone
set_option linter.unusedVariables false
set_option linter.unusedSimpArgs false

/-! ### kinkeeplaw06_PolynomialFactors: function 11 -/
mutual
def kinkeeplaw06_PolynomialFactors.j0 : Nat → List Int → Int → List Int → Bool → Option (Bool)
  | 0, _, _, _, _ => none
  | k + 1, x0, x1, x5, x40 => if x40 = true then (some false) else (kinkeeplaw06_PolynomialFactors.l0 k x0 x1 x5 false x0 (x0.length : Int) 0)
def kinkeeplaw06_PolynomialFactors.l0 : Nat → List Int → Int → List Int → Bool → List Int → Int → Int → Option (Bool)
  | 0, _, _, _, _, _, _, _ => none
  | k + 1, x0, x1, x5, x7, x41, x42, x43 => if x43 < x42 then (if 0 ≤ x43 then (if x43 < (x41.length : Int) then (if x7 = true then (kinkeeplaw06_PolynomialFactors.l0 k x0 x1 x5 true x41 x42 (wrap64 (x43 + 1))) else (kinkeeplaw06_PolynomialFactors.l0 k x0 x1 x5 ((rd x41 x43) == x1) x41 x42 (wrap64 (x43 + 1)))) else (none)) else (none)) else ((polynomial_Eval.f k x5 x1).bind fun t706 => (if ((t706 == 0) != x7) = true then (some false) else ((polynomial_Degree.f k x0).bind fun t707 => (if t707 < 0 then (some true) else ((polynomial_DivMod.f k x0 (([x1, 1] : List Int))).bind fun bt711 => ((polynomial_Multiplicity.f k x0 x1).bind fun bt718 => ((polynomial_Roots.f k x0).bind fun bt720 => (kinkeeplaw06_PolynomialFactors.l1 k x0 x1 bt711.2.1 bt711.2.2 bt718.1 bt718.2 bt720.2 0 bt720.1 (bt720.1.length : Int) 0))))))))
def kinkeeplaw06_PolynomialFactors.l1 : Nat → List Int → Int → List Int → Int → Int → Int → Int → Int → List Int → Int → Int → Option (Bool)
  | 0, _, _, _, _, _, _, _, _, _, _, _ => none
  | k + 1, x0, x1, x11, x12, x13, x14, x16, x17, x82, x83, x84 => if x84 < x83 then (if 0 ≤ x84 then (if x84 < (x82.length : Int) then ((polynomial_Multiplicity.f k x0 (rd x82 x84)).bind fun bt725 => (kinkeeplaw06_PolynomialFactors.l1 k x0 x1 x11 x12 x13 x14 x16 (wrap64 (x17 + bt725.1)) x82 x83 (wrap64 (x84 + 1)))) else (none)) else (none)) else (if x12 = 0 then (if x14 = 0 then (if x16 = 0 then ((polynomial_Eval.f k x0 x1).bind fun t727 => (if (((x11.length : Int) == 0) == (t727 == 0)) = true then (if ((decide (x13 > 0)) == ((x11.length : Int) == 0)) = true then ((polynomial_Degree.f k x0).bind fun t728 => (some (decide (x17 ≤ t728)))) else (some false)) else (some false))) else (some false)) else (some false)) else (some false))
end
def kinkeeplaw06_PolynomialFactors.f (k : Nat) (l0 : List Int) (a1 : Int) : Option (Bool) := (kinkeeplaw06_awake.f k).bind fun t695 => (if t695 = true then ((kinkeeplaw06_many.f k (([l0] : List (List Int)))).bind fun t699 => (if t699 = true then (some true) else ((polynomial_FromRoots.f k l0).bind fun bt700 => (if bt700.2 = 0 then ((polynomial_Degree.f k bt700.1).bind fun t704 => (kinkeeplaw06_PolynomialFactors.j0 k l0 a1 bt700.1 (t704 != (l0.length : Int)))) else (kinkeeplaw06_PolynomialFactors.j0 k l0 a1 bt700.1 true))))) else (some false))
theorem kinkeeplaw06_PolynomialFactors.mono_l : ∀ k, (∀ y0 y1 y2 y3, LeO (kinkeeplaw06_PolynomialFactors.j0 k y0 y1 y2 y3) (kinkeeplaw06_PolynomialFactors.j0 (k + 1) y0 y1 y2 y3)) ∧ (∀ y0 y1 y2 y3 y4 y5 y6, LeO (kinkeeplaw06_PolynomialFactors.l0 k y0 y1 y2 y3 y4 y5 y6) (kinkeeplaw06_PolynomialFactors.l0 (k + 1) y0 y1 y2 y3 y4 y5 y6)) ∧ (∀ y0 y1 y2 y3 y4 y5 y6 y7 y8 y9 y10, LeO (kinkeeplaw06_PolynomialFactors.l1 k y0 y1 y2 y3 y4 y5 y6 y7 y8 y9 y10) (kinkeeplaw06_PolynomialFactors.l1 (k + 1) y0 y1 y2 y3 y4 y5 y6 y7 y8 y9 y10))
  | 0 => ⟨fun _ _ _ _ r h => by simp [kinkeeplaw06_PolynomialFactors.j0] at h, fun _ _ _ _ _ _ _ r h => by simp [kinkeeplaw06_PolynomialFactors.l0] at h, fun _ _ _ _ _ _ _ _ _ _ _ r h => by simp [kinkeeplaw06_PolynomialFactors.l1] at h⟩
  | k + 1 => by
    obtain ⟨ih0, ih1, ih2⟩ := kinkeeplaw06_PolynomialFactors.mono_l k
    refine ⟨?_, ?_, ?_⟩
    · intro y0 y1 y2 y3
      unfold kinkeeplaw06_PolynomialFactors.j0
      repeat' first
      | (with_reducible exact ih0 _ _ _ _)
      | (with_reducible exact ih1 _ _ _ _ _ _ _)
      | (with_reducible exact ih2 _ _ _ _ _ _ _ _ _ _ _)
      | (with_reducible exact kinkeeplaw06_awake.mono _)
      | (with_reducible exact kinkeeplaw06_many.mono _ _)
      | (with_reducible exact polynomial_Degree.mono _ _)
      | (with_reducible exact polynomial_DivMod.mono _ _ _)
      | (with_reducible exact polynomial_Eval.mono _ _ _)
      | (with_reducible exact polynomial_FromRoots.mono _ _)
      | (with_reducible exact polynomial_Multiplicity.mono _ _ _)
      | (with_reducible exact polynomial_Roots.mono _ _)
      | (with_reducible exact LeO.refl _)
      | (with_reducible exact LeO.none _)
      | (with_reducible refine LeO.ite ?_ ?_)
      | (with_reducible refine LeO.bind ?_ (fun _ => ?_))
      | exact ih0 _ _ _ _
      | exact ih1 _ _ _ _ _ _ _
      | exact ih2 _ _ _ _ _ _ _ _ _ _ _
      | exact kinkeeplaw06_awake.mono _
      | exact kinkeeplaw06_many.mono _ _
      | exact polynomial_Degree.mono _ _
      | exact polynomial_DivMod.mono _ _ _
      | exact polynomial_Eval.mono _ _ _
      | exact polynomial_FromRoots.mono _ _
      | exact polynomial_Multiplicity.mono _ _ _
      | exact polynomial_Roots.mono _ _
      | exact LeO.none _
      | refine LeO.ite ?_ ?_
      | refine LeO.bind ?_ (fun _ => ?_)
    · intro y0 y1 y2 y3 y4 y5 y6
      unfold kinkeeplaw06_PolynomialFactors.l0
      repeat' first
      | (with_reducible exact ih0 _ _ _ _)
      | (with_reducible exact ih1 _ _ _ _ _ _ _)
      | (with_reducible exact ih2 _ _ _ _ _ _ _ _ _ _ _)
      | (with_reducible exact kinkeeplaw06_awake.mono _)
      | (with_reducible exact kinkeeplaw06_many.mono _ _)
      | (with_reducible exact polynomial_Degree.mono _ _)
      | (with_reducible exact polynomial_DivMod.mono _ _ _)
      | (with_reducible exact polynomial_Eval.mono _ _ _)
      | (with_reducible exact polynomial_FromRoots.mono _ _)
      | (with_reducible exact polynomial_Multiplicity.mono _ _ _)
      | (with_reducible exact polynomial_Roots.mono _ _)
      | (with_reducible exact LeO.refl _)
      | (with_reducible exact LeO.none _)
      | (with_reducible refine LeO.ite ?_ ?_)
      | (with_reducible refine LeO.bind ?_ (fun _ => ?_))
      | exact ih0 _ _ _ _
      | exact ih1 _ _ _ _ _ _ _
      | exact ih2 _ _ _ _ _ _ _ _ _ _ _
      | exact kinkeeplaw06_awake.mono _
      | exact kinkeeplaw06_many.mono _ _
      | exact polynomial_Degree.mono _ _
      | exact polynomial_DivMod.mono _ _ _
      | exact polynomial_Eval.mono _ _ _
      | exact polynomial_FromRoots.mono _ _
      | exact polynomial_Multiplicity.mono _ _ _
      | exact polynomial_Roots.mono _ _
      | exact LeO.none _
      | refine LeO.ite ?_ ?_
      | refine LeO.bind ?_ (fun _ => ?_)
    · intro y0 y1 y2 y3 y4 y5 y6 y7 y8 y9 y10
      unfold kinkeeplaw06_PolynomialFactors.l1
      repeat' first
      | (with_reducible exact ih0 _ _ _ _)
      | (with_reducible exact ih1 _ _ _ _ _ _ _)
      | (with_reducible exact ih2 _ _ _ _ _ _ _ _ _ _ _)
      | (with_reducible exact kinkeeplaw06_awake.mono _)
      | (with_reducible exact kinkeeplaw06_many.mono _ _)
      | (with_reducible exact polynomial_Degree.mono _ _)
      | (with_reducible exact polynomial_DivMod.mono _ _ _)
      | (with_reducible exact polynomial_Eval.mono _ _ _)
      | (with_reducible exact polynomial_FromRoots.mono _ _)
      | (with_reducible exact polynomial_Multiplicity.mono _ _ _)
      | (with_reducible exact polynomial_Roots.mono _ _)
      | (with_reducible exact LeO.refl _)
      | (with_reducible exact LeO.none _)
      | (with_reducible refine LeO.ite ?_ ?_)
      | (with_reducible refine LeO.bind ?_ (fun _ => ?_))
      | exact ih0 _ _ _ _
      | exact ih1 _ _ _ _ _ _ _
      | exact ih2 _ _ _ _ _ _ _ _ _ _ _
      | exact kinkeeplaw06_awake.mono _
      | exact kinkeeplaw06_many.mono _ _
      | exact polynomial_Degree.mono _ _
      | exact polynomial_DivMod.mono _ _ _
      | exact polynomial_Eval.mono _ _ _
      | exact polynomial_FromRoots.mono _ _
      | exact polynomial_Multiplicity.mono _ _ _
      | exact polynomial_Roots.mono _ _
      | exact LeO.none _
      | refine LeO.ite ?_ ?_
      | refine LeO.bind ?_ (fun _ => ?_)
theorem kinkeeplaw06_PolynomialFactors.mono : ∀ a0 a1 k, LeO (kinkeeplaw06_PolynomialFactors.f k a0 a1) (kinkeeplaw06_PolynomialFactors.f (k + 1) a0 a1) := by
  intro a0 a1 k
  obtain ⟨ih0, ih1, ih2⟩ := kinkeeplaw06_PolynomialFactors.mono_l k
  unfold kinkeeplaw06_PolynomialFactors.f
  repeat' first
      | (with_reducible exact ih0 _ _ _ _)
      | (with_reducible exact ih1 _ _ _ _ _ _ _)
      | (with_reducible exact ih2 _ _ _ _ _ _ _ _ _ _ _)
      | (with_reducible exact kinkeeplaw06_awake.mono _)
      | (with_reducible exact kinkeeplaw06_many.mono _ _)
      | (with_reducible exact polynomial_Degree.mono _ _)
      | (with_reducible exact polynomial_DivMod.mono _ _ _)
      | (with_reducible exact polynomial_Eval.mono _ _ _)
      | (with_reducible exact polynomial_FromRoots.mono _ _)
      | (with_reducible exact polynomial_Multiplicity.mono _ _ _)
      | (with_reducible exact polynomial_Roots.mono _ _)
      | (with_reducible exact LeO.refl _)
      | (with_reducible exact LeO.none _)
      | (with_reducible refine LeO.ite ?_ ?_)
      | (with_reducible refine LeO.bind ?_ (fun _ => ?_))
      | exact ih0 _ _ _ _
      | exact ih1 _ _ _ _ _ _ _
      | exact ih2 _ _ _ _ _ _ _ _ _ _ _
      | exact kinkeeplaw06_awake.mono _
      | exact kinkeeplaw06_many.mono _ _
      | exact polynomial_Degree.mono _ _
      | exact polynomial_DivMod.mono _ _ _
      | exact polynomial_Eval.mono _ _ _
      | exact polynomial_FromRoots.mono _ _
      | exact polynomial_Multiplicity.mono _ _ _
      | exact polynomial_Roots.mono _ _
      | exact LeO.none _
      | refine LeO.ite ?_ ?_
      | refine LeO.bind ?_ (fun _ => ?_)
set_option maxHeartbeats 8000000 in
set_option maxRecDepth 100000 in
theorem kinkeeplaw06_PolynomialFactors.calls (k : Nat) (P0_ : Nat → Prop) (A0 : Option Addr) (c0 : Nat) (l0 : List Int) (a1 : Int) (r : Bool) (w : World) (hs0 : Kd.V (Kd.int .u8) 5 w w.heap.size (fun k_ => P0_ k_) (.slice A0 l0.length c0) l0) (h : kinkeeplaw06_PolynomialFactors.f k l0 a1 = some r) :
    Calls Try.prog 11 #[.slice A0 l0.length c0, .int .u8 a1] w fun e w' => e = .returned (.bool r) ∧ Below w.heap.size w w' := by
  have HO0 := Aside0.mk (show Kd.V (Kd.int .u8) 5 w w.heap.size (fun k_ => (P0_ k_ ∨ w.heap.size ≤ k_)) (.slice A0 l0.length c0) l0 from Kd.V_mono hs0 (fun k_ hk => .inl hk))
  have HB := Aside0.mk (Below.refl w.heap.size w)
  have H : ((kinkeeplaw06_awake.f k).bind fun t695 => (if t695 = true then ((kinkeeplaw06_many.f k (([l0] : List (List Int)))).bind fun t699 => (if t699 = true then (some true) else ((polynomial_FromRoots.f k l0).bind fun bt700 => (if bt700.2 = 0 then ((polynomial_Degree.f k bt700.1).bind fun t704 => (kinkeeplaw06_PolynomialFactors.j0 k l0 a1 bt700.1 (t704 != (l0.length : Int)))) else (kinkeeplaw06_PolynomialFactors.j0 k l0 a1 bt700.1 true))))) else (some false))) = some r := h
  clear h
  replace H := Option.bind_eq_some_iff.mp H
  obtain ⟨t695, A30, H⟩ := H
  replace H : (if t695 = true then ((kinkeeplaw06_many.f k (([l0] : List (List Int)))).bind fun t699 => (if t699 = true then (some true) else ((polynomial_FromRoots.f k l0).bind fun bt700 => (if bt700.2 = 0 then ((polynomial_Degree.f k bt700.1).bind fun t704 => (kinkeeplaw06_PolynomialFactors.j0 k l0 a1 bt700.1 (t704 != (l0.length : Int)))) else (kinkeeplaw06_PolynomialFactors.j0 k l0 a1 bt700.1 true))))) else (some false)) = some r := H
  have A3 := Aside0.mk A30
  clear A30
  by_cases c4 : t695 = true
  · subst c4
    have H1 : ((kinkeeplaw06_many.f k (([l0] : List (List Int)))).bind fun t699 => (if t699 = true then (some true) else ((polynomial_FromRoots.f k l0).bind fun bt700 => (if bt700.2 = 0 then ((polynomial_Degree.f k bt700.1).bind fun t704 => (kinkeeplaw06_PolynomialFactors.j0 k l0 a1 bt700.1 (t704 != (l0.length : Int)))) else (kinkeeplaw06_PolynomialFactors.j0 k l0 a1 bt700.1 true))))) = some r := by rw [if_pos rfl] at H; exact H
    clear H
    have H := H1
    clear H1
    obtain ⟨y696, hy696⟩ : ∃ y_ : List (List Int), y_ = (([l0] : List (List Int))) := ⟨_, rfl⟩
    replace H : ((kinkeeplaw06_many.f k y696).bind fun t699 => (if t699 = true then (some true) else ((polynomial_FromRoots.f k l0).bind fun bt700 => (if bt700.2 = 0 then ((polynomial_Degree.f k bt700.1).bind fun t704 => (kinkeeplaw06_PolynomialFactors.j0 k l0 a1 bt700.1 (t704 != (l0.length : Int)))) else (kinkeeplaw06_PolynomialFactors.j0 k l0 a1 bt700.1 true))))) = some r := by first | (rw [hy696]; with_reducible exact H) | (have H2_ := (Option.bind_some _ _).symm.trans H; rw [hy696]; with_reducible exact H2_) | (have H2_ := (Option.bind_some _ _).symm.trans H; with_reducible exact H2_) | with_reducible exact H | (rw [hy696]; exact H) | exact H
    have Ny696 := Aside0.mk hy696
    clear hy696
    replace H := Option.bind_eq_some_iff.mp H
    obtain ⟨t699, A50, H⟩ := H
    replace H : (if t699 = true then (some true) else ((polynomial_FromRoots.f k l0).bind fun bt700 => (if bt700.2 = 0 then ((polynomial_Degree.f k bt700.1).bind fun t704 => (kinkeeplaw06_PolynomialFactors.j0 k l0 a1 bt700.1 (t704 != (l0.length : Int)))) else (kinkeeplaw06_PolynomialFactors.j0 k l0 a1 bt700.1 true)))) = some r := H
    have A5 := Aside0.mk A50
    clear A50
    by_cases c6 : t699 = true
    · subst c6
      have H1 : (some true) = some r := by rw [if_pos rfl] at H; exact H
      clear H
      have H := H1
      clear H1
      obtain rfl := Option.some.inj H
      go_enter Try.func11, Try.ntmps11
      go_wp2_with (first | ((with_reducible refine gate_callee (f := 13) rfl ?_); refine goesL_ (some 22) rfl rfl Try.func13 (by kernel_rfl) rfl #[] rfl (by (try simp only [List.map_toArray, List.map_cons, List.map_nil]); first | done | rfl | (simp only [List.length_drop, List.length_take]; rfl)) ?_; (with_reducible refine (kinkeeplaw06_awake.calls k  true _ A3.out).mono ?_); rintro e w7 ⟨rfl, hb⟩; refine ⟨_, rfl, ?_⟩; have n0_ := Aside0.mk (Kd.V_below (by (with_reducible repeat (first | apply Kd.V_alloc | apply Kd.V_drewN | apply Kd.V_drew)); exact HO0.out) hb); have n1_ := Aside0.mk (below_step (by repeat (first | (with_reducible first | exact HB.out | apply below_alloc | apply pw_below_drewN | apply below_drew1) | exact HB.out)) hb); clear HO0; clear HB; have HO0 := n0_; have HB := n1_; clear n0_ n1_; (try clear hb); (try clear hb2); (try clear hk); (try clear hi)) | ((with_reducible refine gate_dst (N := 25) rfl ?_); (try (refine gate_guard (by rfl) ?_; dsimp only)); refine Kd.N_lit (Kd.slice 5 (Kd.int .u8)) _ 22 ?hg (N' := 25) ?hd (xs := ([l0] : List (List Int))) (inner := [.slice A0 l0.length c0]) (ok := (fun k_ => (P0_ k_ ∨ w.heap.size ≤ k_))) (okp := (fun k_ => (P0_ k_ ∨ w.heap.size ≤ k_))) ?hr ?hp (fun _ hk => hk) ((show ∀ k_, w7.heap.size ≤ k_ → (fun k_ => (P0_ k_ ∨ w.heap.size ≤ k_)) k_ from fun k_ hk => (.inr (Nat.le_trans (below_size (by repeat (first | (with_reducible first | exact HB.out | apply below_alloc | apply pw_below_drewN | apply below_drew1) | exact HB.out))) hk))) _ (Nat.le_refl _)) (Below.refl _ _) (Nat.le_refl _) (by simp) ?_; (case hd => rfl); (case hg => rfl); (case hr => first | (go_simp; done) | (go_simp; rfl)); (case hp => exact (Reps.one (show Kd.FK (Kd.slice 5 (Kd.int .u8)) _ _ l0 [.slice A0 l0.length c0] from (Kd.FK_slice_mk (Kd.V_reads' (Kd.V_mono (ok' := (fun k_ => (P0_ k_ ∨ w.heap.size ≤ k_))) (HO0.out) (fun k_ hk => hk))).2.1 (Kd.V_F (Kd.V_mono (ok' := (fun k_ => (P0_ k_ ∨ w.heap.size ≤ k_))) (HO0.out) (fun k_ hk => hk))))) (Reps.none _ _))); intro v697 w8 ho9 hb hg_ hnew_; clear hg_ hnew_; (first | rw [← Ny696.out] at ho9 | (simp only [Int.reduceToNat] at ho9; rw [← Ny696.out] at ho9)); have n0_ := Aside0.mk (Kd.V_elder' (by (with_reducible repeat (first | apply Kd.V_alloc | apply Kd.V_drewN | apply Kd.V_drew)); exact HO0.out) (Kd.N_base ho9) hb); have n1_ := Aside0.mk (Kd.N_lower ho9 (below_size (by repeat (first | (with_reducible first | exact HB.out | apply below_alloc | apply pw_below_drewN | apply below_drew1) | exact HB.out)))); have n2_ := Aside0.mk (below_step (by repeat (first | (with_reducible first | exact HB.out | apply below_alloc | apply pw_below_drewN | apply below_drew1) | exact HB.out)) hb); clear HO0; clear HB; have HO0 := n0_; have HO698 := n1_; have HB := n2_; clear n0_ n1_ n2_; clear hb ho9; obtain ⟨Ao10, co10, eo10⟩ := Kd.N_slice HO698.out; subst eo10) | ((with_reducible refine gate_callee (f := 27) rfl ?_); refine goesL_ (some 26) rfl rfl Try.func27 (by kernel_rfl) rfl #[.slice Ao10 y696.length co10] rfl (by (try simp only [List.map_toArray, List.map_cons, List.map_nil]); first | done | rfl | (simp only [List.length_drop, List.length_take]; rfl)) ?_; (with_reducible refine (kinkeeplaw06_many.calls k _ _ y696 true _ ?side1 ?side2 A5.out).mono ?_); (case side1 => repeat (first | exact (Kd.N_reads' HO698.out).2.2 | (with_reducible refine Kd.C_alloc ?_ _) | (with_reducible refine Kd.C_drewN ?_ _) | (with_reducible refine Kd.C_drew ?_))); (case side2 => exact (Kd.N_reads' HO698.out).2.1); rintro e w' ⟨rfl, ⟨nd, rfl⟩⟩; refine ⟨_, rfl, ?_⟩))
      go_ret
      exact ⟨by first | rfl | (simp [errW_none, errW_some] <;> rfl) | (simp [*, errW_none, errW_some] <;> rfl), by repeat (first | (with_reducible first | exact HB.out | apply below_alloc | apply pw_below_drewN | apply below_drew1) | exact HB.out)⟩
    · replace c6 := Bool.eq_false_iff.mpr c6
      subst c6
      have H1 : ((polynomial_FromRoots.f k l0).bind fun bt700 => (if bt700.2 = 0 then ((polynomial_Degree.f k bt700.1).bind fun t704 => (kinkeeplaw06_PolynomialFactors.j0 k l0 a1 bt700.1 (t704 != (l0.length : Int)))) else (kinkeeplaw06_PolynomialFactors.j0 k l0 a1 bt700.1 true))) = some r := by rw [if_neg (show ¬ (false = true) by decide)] at H; exact H
      clear H
      have H := H1
      clear H1
      replace H := Option.bind_eq_some_iff.mp H
      obtain ⟨⟨t700, t701⟩, A110, H⟩ := H
      replace H : (if t701 = 0 then ((polynomial_Degree.f k t700).bind fun t704 => (kinkeeplaw06_PolynomialFactors.j0 k l0 a1 t700 (t704 != (l0.length : Int)))) else (kinkeeplaw06_PolynomialFactors.j0 k l0 a1 t700 true)) = some r := H
      have A11 := Aside0.mk A110
      clear A110
      have HC12 := Aside0.mk H
      clear H
      go_enter Try.func11, Try.ntmps11
      go_upto_region 6 with (first | ((with_reducible refine gate_callee (f := 13) rfl ?_); refine goesL_ (some 22) rfl rfl Try.func13 (by kernel_rfl) rfl #[] rfl (by (try simp only [List.map_toArray, List.map_cons, List.map_nil]); first | done | rfl | (simp only [List.length_drop, List.length_take]; rfl)) ?_; (with_reducible refine (kinkeeplaw06_awake.calls k  true _ A3.out).mono ?_); rintro e w13 ⟨rfl, hb⟩; refine ⟨_, rfl, ?_⟩; have n0_ := Aside0.mk (Kd.V_below (by (with_reducible repeat (first | apply Kd.V_alloc | apply Kd.V_drewN | apply Kd.V_drew)); exact HO0.out) hb); have n1_ := Aside0.mk (below_step (by repeat (first | (with_reducible first | exact HB.out | apply below_alloc | apply pw_below_drewN | apply below_drew1) | exact HB.out)) hb); clear HO0; clear HB; have HO0 := n0_; have HB := n1_; clear n0_ n1_; (try clear hb); (try clear hb2); (try clear hk); (try clear hi)) | ((with_reducible refine gate_dst (N := 25) rfl ?_); (try (refine gate_guard (by rfl) ?_; dsimp only)); refine Kd.N_lit (Kd.slice 5 (Kd.int .u8)) _ 22 ?hg (N' := 25) ?hd (xs := ([l0] : List (List Int))) (inner := [.slice A0 l0.length c0]) (ok := (fun k_ => (P0_ k_ ∨ w.heap.size ≤ k_))) (okp := (fun k_ => (P0_ k_ ∨ w.heap.size ≤ k_))) ?hr ?hp (fun _ hk => hk) ((show ∀ k_, w13.heap.size ≤ k_ → (fun k_ => (P0_ k_ ∨ w.heap.size ≤ k_)) k_ from fun k_ hk => (.inr (Nat.le_trans (below_size (by repeat (first | (with_reducible first | exact HB.out | apply below_alloc | apply pw_below_drewN | apply below_drew1) | exact HB.out))) hk))) _ (Nat.le_refl _)) (Below.refl _ _) (Nat.le_refl _) (by simp) ?_; (case hd => rfl); (case hg => rfl); (case hr => first | (go_simp; done) | (go_simp; rfl)); (case hp => exact (Reps.one (show Kd.FK (Kd.slice 5 (Kd.int .u8)) _ _ l0 [.slice A0 l0.length c0] from (Kd.FK_slice_mk (Kd.V_reads' (Kd.V_mono (ok' := (fun k_ => (P0_ k_ ∨ w.heap.size ≤ k_))) (HO0.out) (fun k_ hk => hk))).2.1 (Kd.V_F (Kd.V_mono (ok' := (fun k_ => (P0_ k_ ∨ w.heap.size ≤ k_))) (HO0.out) (fun k_ hk => hk))))) (Reps.none _ _))); intro v697 w14 ho15 hb hg_ hnew_; clear hg_ hnew_; (first | rw [← Ny696.out] at ho15 | (simp only [Int.reduceToNat] at ho15; rw [← Ny696.out] at ho15)); have n0_ := Aside0.mk (Kd.V_elder' (by (with_reducible repeat (first | apply Kd.V_alloc | apply Kd.V_drewN | apply Kd.V_drew)); exact HO0.out) (Kd.N_base ho15) hb); have n1_ := Aside0.mk (Kd.N_lower ho15 (below_size (by repeat (first | (with_reducible first | exact HB.out | apply below_alloc | apply pw_below_drewN | apply below_drew1) | exact HB.out)))); have n2_ := Aside0.mk (below_step (by repeat (first | (with_reducible first | exact HB.out | apply below_alloc | apply pw_below_drewN | apply below_drew1) | exact HB.out)) hb); clear HO0; clear HB; have HO0 := n0_; have HO698 := n1_; have HB := n2_; clear n0_ n1_ n2_; clear hb ho15; obtain ⟨Ao16, co16, eo16⟩ := Kd.N_slice HO698.out; subst eo16) | ((with_reducible refine gate_callee (f := 27) rfl ?_); refine goesL_ (some 26) rfl rfl Try.func27 (by kernel_rfl) rfl #[.slice Ao16 y696.length co16] rfl (by (try simp only [List.map_toArray, List.map_cons, List.map_nil]); first | done | rfl | (simp only [List.length_drop, List.length_take]; rfl)) ?_; (with_reducible refine (kinkeeplaw06_many.calls k _ _ y696 false _ ?side1 ?side2 A5.out).mono ?_); (case side1 => repeat (first | exact (Kd.N_reads' HO698.out).2.2 | (with_reducible refine Kd.C_alloc ?_ _) | (with_reducible refine Kd.C_drewN ?_ _) | (with_reducible refine Kd.C_drew ?_))); (case side2 => exact (Kd.N_reads' HO698.out).2.1); rintro e w' ⟨rfl, ⟨nd, rfl⟩⟩; refine ⟨_, rfl, ?_⟩) | ((with_reducible refine gate_callee (f := 39) rfl ?_); refine goesL_ (some 29) rfl rfl Try.func39 (by kernel_rfl) rfl #[.slice A0 l0.length c0] rfl (by (try simp only [List.map_toArray, List.map_cons, List.map_nil]); first | done | rfl | (simp only [List.length_drop, List.length_take]; rfl)) ?_; (with_reducible refine (polynomial_FromRoots.calls k _ _ l0 t700 t701 _ ?side1 ?side2 A11.out).mono ?_); (case side1 => repeat (first | exact (Kd.V_reads' HO0.out).2.2 | (with_reducible refine Kd.C_alloc ?_ _) | (with_reducible refine Kd.C_drewN ?_ _) | (with_reducible refine Kd.C_drew ?_))); (case side2 => exact (Kd.V_reads' HO0.out).2.1); rintro e w17 ⟨v702, rfl, ho0, hb⟩; refine ⟨_, rfl, ?_⟩; have n0_ := Aside0.mk (Kd.V_elder' (by (with_reducible repeat (first | apply Kd.V_alloc | apply Kd.V_drewN | apply Kd.V_drew)); exact HO0.out) (Kd.R_base ho0) hb); have n1_ := Aside0.mk (Kd.N_elder' (by (with_reducible repeat (first | apply Kd.N_alloc | apply Kd.N_drewN | apply Kd.N_drew)); exact HO698.out) (Kd.R_base ho0) hb); have n2_ := Aside0.mk (Kd.R_lower (Kd.R_newM (M := fun k_ => (w.heap.size ≤ k_)) ho0 (below_size (by repeat (first | (with_reducible first | exact HB.out | apply below_alloc | apply pw_below_drewN | apply below_drew1) | exact HB.out))) (fun k_ h_ => h_)) (below_size (by repeat (first | (with_reducible first | exact HB.out | apply below_alloc | apply pw_below_drewN | apply below_drew1) | exact HB.out)))); have n3_ := Aside0.mk (below_step (by repeat (first | (with_reducible first | exact HB.out | apply below_alloc | apply pw_below_drewN | apply below_drew1) | exact HB.out)) hb); clear HO0; clear HO698; clear HB; have HO0 := n0_; have HO698 := n1_; have HO703 := n2_; have HB := n3_; clear n0_ n1_ n2_ n3_; (try clear hb); (try clear hb2); (try clear hk); (try clear hi); (try clear ho0)))
      (try simp only [Act.put, List.setIfInBounds_toArray, List.set_cons_zero, List.set_cons_succ])
      go_cut [40] (fun v40 wc => ∃ (kq : Nat) (x40_11 : Bool), v40 = .bool x40_11 ∧ Aside0 (kinkeeplaw06_PolynomialFactors.j0 kq l0 a1 t700 x40_11 = some r) ∧ Aside0 (kq ≤ k) ∧ Aside0 (Kd.V (Kd.int .u8) 5 wc w.heap.size (fun k_ => (P0_ k_ ∨ w.heap.size ≤ k_) ∧ some k_ ≠ (v702 : Value).ownBlock) (.slice A0 l0.length c0) l0) ∧ Aside0 (Kd.R (Kd.int .u8) 5 wc w.heap.size (fun k_ => (w.heap.size ≤ k_)) v702 t700) ∧ Aside0 (Below w.heap.size w wc))
      case first =>
        have H := HC12.out
        clear HC12
        by_cases c18 : t701 = 0
        · rw [if_pos c18] at H
          have c18b0 : (t701 == 0) = true := beq_iff_eq.mpr c18
          have c18b1 : (t701 != 0) = false := bne_eq_false_iff_eq.mpr c18
          clear c18
          (first | rw [c18b0] | (simp only [i64_w, i32_w]; rw [c18b0]) | skip)
          replace H := Option.bind_eq_some_iff.mp H
          obtain ⟨t704, A190, H⟩ := H
          replace H : (kinkeeplaw06_PolynomialFactors.j0 k l0 a1 t700 (t704 != (l0.length : Int))) = some r := H
          have A19 := Aside0.mk A190
          clear A190
          have H' := Aside0.mk H
          clear H
          obtain ⟨Ao20, co20, eo20⟩ := Kd.R_slice HO703.out
          subst eo20
          go_wp2_with (first | (go_at_call 17; (with_reducible refine (polynomial_Degree.calls k _ _ t700 t704 _ ?side1 ?side2 A19.out).mono ?_); (case side1 => repeat (first | exact (Kd.R_reads' HO703.out).2.2 | (with_reducible refine Kd.C_alloc ?_ _) | (with_reducible refine Kd.C_drewN ?_ _) | (with_reducible refine Kd.C_drew ?_))); (case side2 => exact (Kd.R_reads' HO703.out).2.1); rintro e w' ⟨rfl, ⟨nd, rfl⟩⟩))
          go_meet
          case rel => exact ⟨_, ((t704 != (l0.length : Int))), (by first | rfl | (simp; done) | (simp [*]; done)), H', ⟨by first | omega | exact Nat.le_refl _⟩, ⟨by (with_reducible repeat (first | apply Kd.V_alloc | apply Kd.V_drewN | apply Kd.V_drew)); exact Kd.V_mono HO0.out (fun _ hk => ⟨hk.1.1, hk.2⟩)⟩, ⟨by (with_reducible repeat (first | apply Kd.R_alloc | apply Kd.R_drewN | apply Kd.R_drew)); exact Kd.R_mono HO703.out (fun _ hk => hk.1)⟩, ⟨by repeat (first | (with_reducible first | exact HB.out | apply below_alloc | apply pw_below_drewN | apply below_drew1) | exact HB.out)⟩⟩
        · rw [if_neg c18] at H
          have c18b0 : (t701 == 0) = false := beq_eq_false_iff_ne.mpr c18
          have c18b1 : (t701 != 0) = true := bne_iff_ne.mpr c18
          (first | rw [c18b0] | (simp only [i64_w, i32_w]; rw [c18b0]) | skip)
          have H' := Aside0.mk H
          clear H
          go_wp2
          go_meet
          case rel => exact ⟨_, (true), (by first | rfl | (simp; done) | (simp [*]; done)), H', ⟨by first | omega | exact Nat.le_refl _⟩, ⟨by (with_reducible repeat (first | apply Kd.V_alloc | apply Kd.V_drewN | apply Kd.V_drew)); exact Kd.V_mono HO0.out (fun _ hk => ⟨hk.1.1, hk.2⟩)⟩, ⟨by (with_reducible repeat (first | apply Kd.R_alloc | apply Kd.R_drewN | apply Kd.R_drew)); exact Kd.R_mono HO703.out (fun _ hk => hk.1)⟩, ⟨by repeat (first | (with_reducible first | exact HB.out | apply below_alloc | apply pw_below_drewN | apply below_drew1) | exact HB.out)⟩⟩
      case rest =>
        clear HC12
        try clear c1
        try clear c2
        try clear p2
        try clear c3
        try clear c4
        try clear c6
        try clear c11
        try clear c13
        try clear c18
        try clear c18b0
        try clear c18b1
        obtain ⟨kq, x40_11, rfl, HA, HJ11, HO_0, HO_5, HB⟩ := hcut
        cases kq with
        | zero => exact absurd HA.out (by simp [kinkeeplaw06_PolynomialFactors.j0])
        | succ kj11 =>
          have H := HA.out
          clear HA
          simp only [kinkeeplaw06_PolynomialFactors.j0] at H
          by_cases c21 : x40_11 = true
          · subst c21
            have H1 : (some false) = some r := by rw [if_pos rfl] at H; exact H
            clear H
            have H := H1
            clear H1
            obtain rfl := Option.some.inj H
            go_wp2
            go_ret
            exact ⟨by first | rfl | (simp [errW_none, errW_some] <;> rfl) | (simp [*, errW_none, errW_some] <;> rfl), by repeat (first | (with_reducible first | exact HB.out | apply below_alloc | apply pw_below_drewN | apply below_drew1) | exact HB.out)⟩
          · replace c21 := Bool.eq_false_iff.mpr c21
            subst c21
            have H1 : (kinkeeplaw06_PolynomialFactors.l0 kj11 l0 a1 t700 false l0 (l0.length : Int) 0) = some r := by rw [if_neg (show ¬ (false = true) by decide)] at H; exact H
            clear H
            have H := H1
            clear H1
            have H' := Aside0.mk H
            clear H
            go_wp2
            go_loopg [7, 43] kj11 (fun kq v7 v43 w' => ∃ (x7_2 : Bool) (x43_2 : Int), v7 = .bool x7_2 ∧ v43 = .int .i64 x43_2 ∧ Aside0 (kinkeeplaw06_PolynomialFactors.l0 kq l0 a1 t700 x7_2 l0 (l0.length : Int) x43_2 = some r) ∧ Aside0 (kq ≤ kj11) ∧ Aside0 (Kd.V (Kd.int .u8) 5 w' w.heap.size (fun k_ => (P0_ k_ ∨ w.heap.size ≤ k_) ∧ some k_ ≠ (v702 : Value).ownBlock) (.slice A0 l0.length c0) l0) ∧ Aside0 (Kd.R (Kd.int .u8) 5 w' w.heap.size (fun k_ => (w.heap.size ≤ k_)) v702 t700) ∧ Aside0 (Kd.V (Kd.int .u8) 5 w' w.heap.size (fun k_ => (P0_ k_ ∨ w.heap.size ≤ k_) ∧ some k_ ≠ (v702 : Value).ownBlock) (.slice A0 l0.length c0) l0) ∧ Aside0 (Below w.heap.size w w'))
            case atStart => exact ⟨(false), (0), (by first | rfl | (simp; done) | (simp [*]; done)), (by first | rfl | (simp; done) | (simp [*]; done)), H', ⟨Nat.le_refl _⟩, ⟨by (with_reducible repeat (first | apply Kd.V_alloc | apply Kd.V_drewN | apply Kd.V_drew)); exact HO_0.out⟩, ⟨by (with_reducible repeat (first | apply Kd.R_alloc | apply Kd.R_drewN | apply Kd.R_drew)); exact HO_5.out⟩, ⟨by (with_reducible repeat (first | apply Kd.V_alloc | apply Kd.V_drewN | apply Kd.V_drew)); exact HO_0.out⟩, ⟨by repeat (first | (with_reducible first | exact HB.out | apply below_alloc | apply pw_below_drewN | apply below_drew1) | exact HB.out)⟩⟩
            case round =>
              clear H'
              try clear c1
              try clear c2
              try clear p2
              try clear c3
              try clear c4
              try clear c6
              try clear c11
              try clear c13
              try clear c18
              try clear c18b0
              try clear c18b1
              try clear c21
              try clear p2
              obtain ⟨x7_2, x43_2, rfl, rfl, HA, HK2, HO_0, HO_5, HO_41, HB⟩ := hrel
              cases gk with
              | zero => exact absurd HA.out (by simp [kinkeeplaw06_PolynomialFactors.l0])
              | succ k2 =>
                have H := HA.out
                clear HA
                simp only [kinkeeplaw06_PolynomialFactors.l0] at H
                by_cases c22 : x43_2 < (l0.length : Int)
                · rw [if_pos c22] at H
                  have c22b0 : decide (x43_2 < (l0.length : Int)) = true := decide_eq_true c22
                  clear c22
                  by_cases c23 : 0 ≤ x43_2
                  · rw [if_pos c23] at H
                    have c23b0 : decide (0 ≤ x43_2) = true := decide_eq_true c23
                    clear c23
                    by_cases c24 : x43_2 < (l0.length : Int)
                    · rw [if_pos c24] at H
                      have c24b0 : decide (x43_2 < (l0.length : Int)) = true := decide_eq_true c24
                      clear c24
                      by_cases c25 : x7_2 = true
                      · subst c25
                        have H1 : (kinkeeplaw06_PolynomialFactors.l0 k2 l0 a1 t700 true l0 (l0.length : Int) (wrap64 (x43_2 + 1))) = some r := by rw [if_pos rfl] at H; exact H
                        clear H
                        have H := H1
                        clear H1
                        have H' := Aside0.mk H
                        clear H
                        have p705 : 0 ≤ (x43_2 : Int) := of_decide_eq_true (by first | (with_reducible assumption) | assumption)
                        have q705 : x43_2 < (l0.length : Int) := of_decide_eq_true (by first | (with_reducible assumption) | assumption)
                        obtain ⟨ad705, e705, hx705_0⟩ := Kd.at_int (Kd.V_reads' HO_41.out).2.2 x43_2 p705 q705
                        cases e705
                        replace p705 := eq_true p705
                        replace q705 := eq_true q705
                        go_wp2
                        go_roundg k2
                        case measure => have := HJ11.out; have := HK2.out; omega
                        case rel => exact ⟨(true), (wrap64 (x43_2 + 1)), (by first | rfl | (simp; done) | (simp [*]; done)), (by first | rfl | (simp; done) | (simp [*]; done)), H', ⟨by have := HJ11.out; have := HK2.out; omega⟩, ⟨by (with_reducible repeat (first | apply Kd.V_alloc | apply Kd.V_drewN | apply Kd.V_drew)); exact HO_0.out⟩, ⟨by (with_reducible repeat (first | apply Kd.R_alloc | apply Kd.R_drewN | apply Kd.R_drew)); exact HO_5.out⟩, ⟨by (with_reducible repeat (first | apply Kd.V_alloc | apply Kd.V_drewN | apply Kd.V_drew)); exact HO_41.out⟩, ⟨by repeat (first | (with_reducible first | exact HB.out | apply below_alloc | apply pw_below_drewN | apply below_drew1) | exact HB.out)⟩⟩
                      · replace c25 := Bool.eq_false_iff.mpr c25
                        subst c25
                        have H1 : (kinkeeplaw06_PolynomialFactors.l0 k2 l0 a1 t700 ((rd l0 x43_2) == a1) l0 (l0.length : Int) (wrap64 (x43_2 + 1))) = some r := by rw [if_neg (show ¬ (false = true) by decide)] at H; exact H
                        clear H
                        have H := H1
                        clear H1
                        have H' := Aside0.mk H
                        clear H
                        have p705 : 0 ≤ (x43_2 : Int) := of_decide_eq_true (by first | (with_reducible assumption) | assumption)
                        have q705 : x43_2 < (l0.length : Int) := of_decide_eq_true (by first | (with_reducible assumption) | assumption)
                        obtain ⟨ad705, e705, hx705_0⟩ := Kd.at_int (Kd.V_reads' HO_41.out).2.2 x43_2 p705 q705
                        cases e705
                        replace p705 := eq_true p705
                        replace q705 := eq_true q705
                        go_wp2
                        go_roundg k2
                        case measure => have := HJ11.out; have := HK2.out; omega
                        case rel => exact ⟨(((rd l0 x43_2) == a1)), (wrap64 (x43_2 + 1)), (by first | rfl | (simp; done) | (simp [*]; done)), (by first | rfl | (simp; done) | (simp [*]; done)), H', ⟨by have := HJ11.out; have := HK2.out; omega⟩, ⟨by (with_reducible repeat (first | apply Kd.V_alloc | apply Kd.V_drewN | apply Kd.V_drew)); exact HO_0.out⟩, ⟨by (with_reducible repeat (first | apply Kd.R_alloc | apply Kd.R_drewN | apply Kd.R_drew)); exact HO_5.out⟩, ⟨by (with_reducible repeat (first | apply Kd.V_alloc | apply Kd.V_drewN | apply Kd.V_drew)); exact HO_41.out⟩, ⟨by repeat (first | (with_reducible first | exact HB.out | apply below_alloc | apply pw_below_drewN | apply below_drew1) | exact HB.out)⟩⟩
                    · rw [if_neg c24] at H
                      exact absurd H (by simp)
                  · rw [if_neg c23] at H
                    exact absurd H (by simp)
                · rw [if_neg c22] at H
                  have c22b0 : decide (x43_2 < (l0.length : Int)) = false := decide_eq_false c22
                  clear c22
                  replace H := Option.bind_eq_some_iff.mp H
                  obtain ⟨t706, A260, H⟩ := H
                  replace H : (if ((t706 == 0) != x7_2) = true then (some false) else ((polynomial_Degree.f k2 l0).bind fun t707 => (if t707 < 0 then (some true) else ((polynomial_DivMod.f k2 l0 (([a1, 1] : List Int))).bind fun bt711 => ((polynomial_Multiplicity.f k2 l0 a1).bind fun bt718 => ((polynomial_Roots.f k2 l0).bind fun bt720 => (kinkeeplaw06_PolynomialFactors.l1 k2 l0 a1 bt711.2.1 bt711.2.2 bt718.1 bt718.2 bt720.2 0 bt720.1 (bt720.1.length : Int) 0))))))) = some r := H
                  have A26 := Aside0.mk A260
                  clear A260
                  by_cases c27 : ((t706 == 0) != x7_2) = true
                  · rw [if_pos c27] at H
                    have c27b0 : ((t706 == 0) != x7_2) = true := c27
                    (try (have c27b1 : decide ((t706 == 0) = x7_2) = false := by simpa using c27))
                    (try (have c27b2 : ((t706 == 0) == x7_2) = false := by simpa using c27))
                    (try (have c27b3 : ¬ ((t706 == 0) = x7_2) := by simpa using c27))
                    clear c27
                    obtain rfl := Option.some.inj H
                    obtain ⟨Ao28, co28, eo28⟩ := Kd.R_slice HO_5.out
                    subst eo28
                    go_wp2_with (first | ((with_reducible refine gate_callee (f := 29) rfl ?_); refine goesL_ (some 56) rfl rfl Try.func29 (by kernel_rfl) rfl #[.slice Ao28 t700.length co28, .int .u8 a1] rfl (by (try simp only [List.map_toArray, List.map_cons, List.map_nil]); first | done | rfl | (simp only [List.length_drop, List.length_take]; rfl)) ?_; (with_reducible refine (polynomial_Eval.calls k2 _ _ t700 a1 t706 _ ?side1 ?side2 A26.out).mono ?_); (case side1 => repeat (first | exact (Kd.R_reads' HO_5.out).2.2 | (with_reducible refine Kd.C_alloc ?_ _) | (with_reducible refine Kd.C_drewN ?_ _) | (with_reducible refine Kd.C_drew ?_))); (case side2 => exact (Kd.R_reads' HO_5.out).2.1); rintro e w' ⟨rfl, ⟨nd, rfl⟩⟩; refine ⟨_, rfl, ?_⟩))
                    go_ret
                    exact ⟨by first | rfl | (simp [errW_none, errW_some] <;> rfl) | (simp [*, errW_none, errW_some] <;> rfl), by repeat (first | (with_reducible first | exact HB.out | apply below_alloc | apply pw_below_drewN | apply below_drew1) | exact HB.out)⟩
                  · rw [if_neg c27] at H
                    have c27b0 : ((t706 == 0) != x7_2) = false := by simpa using c27
                    (try (have c27b1 : decide ((t706 == 0) = x7_2) = true := by simpa using c27))
                    (try (have c27b2 : ((t706 == 0) == x7_2) = true := by simpa using c27))
                    clear c27
                    replace H := Option.bind_eq_some_iff.mp H
                    obtain ⟨t707, A290, H⟩ := H
                    replace H : (if t707 < 0 then (some true) else ((polynomial_DivMod.f k2 l0 (([a1, 1] : List Int))).bind fun bt711 => ((polynomial_Multiplicity.f k2 l0 a1).bind fun bt718 => ((polynomial_Roots.f k2 l0).bind fun bt720 => (kinkeeplaw06_PolynomialFactors.l1 k2 l0 a1 bt711.2.1 bt711.2.2 bt718.1 bt718.2 bt720.2 0 bt720.1 (bt720.1.length : Int) 0))))) = some r := H
                    have A29 := Aside0.mk A290
                    clear A290
                    by_cases c30 : t707 < 0
                    · rw [if_pos c30] at H
                      have c30b0 : decide (t707 < 0) = true := decide_eq_true c30
                      clear c30
                      obtain rfl := Option.some.inj H
                      obtain ⟨Ao31, co31, eo31⟩ := Kd.R_slice HO_5.out
                      subst eo31
                      go_wp2_with (first | ((with_reducible refine gate_callee (f := 29) rfl ?_); refine goesL_ (some 56) rfl rfl Try.func29 (by kernel_rfl) rfl #[.slice Ao31 t700.length co31, .int .u8 a1] rfl (by (try simp only [List.map_toArray, List.map_cons, List.map_nil]); first | done | rfl | (simp only [List.length_drop, List.length_take]; rfl)) ?_; (with_reducible refine (polynomial_Eval.calls k2 _ _ t700 a1 t706 _ ?side1 ?side2 A26.out).mono ?_); (case side1 => repeat (first | exact (Kd.R_reads' HO_5.out).2.2 | (with_reducible refine Kd.C_alloc ?_ _) | (with_reducible refine Kd.C_drewN ?_ _) | (with_reducible refine Kd.C_drew ?_))); (case side2 => exact (Kd.R_reads' HO_5.out).2.1); rintro e w' ⟨rfl, ⟨nd, rfl⟩⟩; refine ⟨_, rfl, ?_⟩) | ((with_reducible refine gate_callee (f := 17) rfl ?_); refine goesL_ (some 61) rfl rfl Try.func17 (by kernel_rfl) rfl #[.slice A0 l0.length c0] rfl (by (try simp only [List.map_toArray, List.map_cons, List.map_nil]); first | done | rfl | (simp only [List.length_drop, List.length_take]; rfl)) ?_; (with_reducible refine (polynomial_Degree.calls k2 _ _ l0 t707 _ ?side1 ?side2 A29.out).mono ?_); (case side1 => repeat (first | exact (Kd.V_reads' HO_0.out).2.2 | (with_reducible refine Kd.C_alloc ?_ _) | (with_reducible refine Kd.C_drewN ?_ _) | (with_reducible refine Kd.C_drew ?_))); (case side2 => exact (Kd.V_reads' HO_0.out).2.1); rintro e w' ⟨rfl, ⟨nd, rfl⟩⟩; refine ⟨_, rfl, ?_⟩))
                      go_ret
                      exact ⟨by first | rfl | (simp [errW_none, errW_some] <;> rfl) | (simp [*, errW_none, errW_some] <;> rfl), by repeat (first | (with_reducible first | exact HB.out | apply below_alloc | apply pw_below_drewN | apply below_drew1) | exact HB.out)⟩
                    · rw [if_neg c30] at H
                      have c30b0 : decide (t707 < 0) = false := decide_eq_false c30
                      clear c30
                      obtain ⟨y708, hy708⟩ : ∃ y_ : List Int, y_ = (([a1, 1] : List Int)) := ⟨_, rfl⟩
                      replace H : ((polynomial_DivMod.f k2 l0 y708).bind fun bt711 => ((polynomial_Multiplicity.f k2 l0 a1).bind fun bt718 => ((polynomial_Roots.f k2 l0).bind fun bt720 => (kinkeeplaw06_PolynomialFactors.l1 k2 l0 a1 bt711.2.1 bt711.2.2 bt718.1 bt718.2 bt720.2 0 bt720.1 (bt720.1.length : Int) 0)))) = some r := by first | (rw [hy708]; with_reducible exact H) | (have H2_ := (Option.bind_some _ _).symm.trans H; rw [hy708]; with_reducible exact H2_) | (have H2_ := (Option.bind_some _ _).symm.trans H; with_reducible exact H2_) | with_reducible exact H | (rw [hy708]; exact H) | exact H
                      have Ny708 := Aside0.mk hy708
                      clear hy708
                      replace H := Option.bind_eq_some_iff.mp H
                      obtain ⟨⟨t711, t712, t713⟩, A320, H⟩ := H
                      replace H : ((polynomial_Multiplicity.f k2 l0 a1).bind fun bt718 => ((polynomial_Roots.f k2 l0).bind fun bt720 => (kinkeeplaw06_PolynomialFactors.l1 k2 l0 a1 t712 t713 bt718.1 bt718.2 bt720.2 0 bt720.1 (bt720.1.length : Int) 0))) = some r := H
                      have A32 := Aside0.mk A320
                      clear A320
                      replace H := Option.bind_eq_some_iff.mp H
                      obtain ⟨⟨t718, t719⟩, A330, H⟩ := H
                      replace H : ((polynomial_Roots.f k2 l0).bind fun bt720 => (kinkeeplaw06_PolynomialFactors.l1 k2 l0 a1 t712 t713 t718 t719 bt720.2 0 bt720.1 (bt720.1.length : Int) 0)) = some r := H
                      have A33 := Aside0.mk A330
                      clear A330
                      replace H := Option.bind_eq_some_iff.mp H
                      obtain ⟨⟨t720, t721⟩, A340, H⟩ := H
                      replace H : (kinkeeplaw06_PolynomialFactors.l1 k2 l0 a1 t712 t713 t718 t719 t721 0 t720 (t720.length : Int) 0) = some r := H
                      have A34 := Aside0.mk A340
                      clear A340
                      have H' := Aside0.mk H
                      clear H
                      obtain ⟨Ao35, co35, eo35⟩ := Kd.R_slice HO_5.out
                      subst eo35
                      go_wp2_with (first | ((with_reducible refine gate_callee (f := 29) rfl ?_); refine goesL_ (some 56) rfl rfl Try.func29 (by kernel_rfl) rfl #[.slice Ao35 t700.length co35, .int .u8 a1] rfl (by (try simp only [List.map_toArray, List.map_cons, List.map_nil]); first | done | rfl | (simp only [List.length_drop, List.length_take]; rfl)) ?_; (with_reducible refine (polynomial_Eval.calls k2 _ _ t700 a1 t706 _ ?side1 ?side2 A26.out).mono ?_); (case side1 => repeat (first | exact (Kd.R_reads' HO_5.out).2.2 | (with_reducible refine Kd.C_alloc ?_ _) | (with_reducible refine Kd.C_drewN ?_ _) | (with_reducible refine Kd.C_drew ?_))); (case side2 => exact (Kd.R_reads' HO_5.out).2.1); rintro e w' ⟨rfl, ⟨nd, rfl⟩⟩; refine ⟨_, rfl, ?_⟩) | ((with_reducible refine gate_callee (f := 17) rfl ?_); refine goesL_ (some 61) rfl rfl Try.func17 (by kernel_rfl) rfl #[.slice A0 l0.length c0] rfl (by (try simp only [List.map_toArray, List.map_cons, List.map_nil]); first | done | rfl | (simp only [List.length_drop, List.length_take]; rfl)) ?_; (with_reducible refine (polynomial_Degree.calls k2 _ _ l0 t707 _ ?side1 ?side2 A29.out).mono ?_); (case side1 => repeat (first | exact (Kd.V_reads' HO_0.out).2.2 | (with_reducible refine Kd.C_alloc ?_ _) | (with_reducible refine Kd.C_drewN ?_ _) | (with_reducible refine Kd.C_drew ?_))); (case side2 => exact (Kd.V_reads' HO_0.out).2.1); rintro e w' ⟨rfl, ⟨nd, rfl⟩⟩; refine ⟨_, rfl, ?_⟩) | ((with_reducible refine gate_dst (N := 66) rfl ?_); (try (refine gate_guard (by rfl) ?_; dsimp only)); refine Kd.R_lit (Kd.int .u8) _ 5 ?hg (N := 66) ?hd (xs := ([a1, 1] : List Int)) (inner := [.int .u8 a1, .int .u8 1]) (ok := fun _ => True) (okp := fun _ => True) ?hr ?hp (fun _ hk => hk) trivial (Below.refl _ _) (Nat.le_refl _) (by simp) ?_; (case hd => rfl); (case hg => rfl); (case hr => first | (go_simp; done) | (go_simp; rfl)); (case hp => exact (Reps.one (show Kd.M (Kd.int .u8) _ _ _ a1 [.int .u8 a1] from rfl) (Reps.one (show Kd.M (Kd.int .u8) _ _ _ 1 [.int .u8 1] from rfl) (Reps.none _ _)))); intro v709 w36 ho37 hb hg_ hnew_; clear hg_ hnew_; (first | rw [← Ny708.out] at ho37 | (simp only [Int.reduceToNat] at ho37; rw [← Ny708.out] at ho37)); have n0_ := Aside0.mk (Kd.V_elder' (by (with_reducible repeat (first | apply Kd.V_alloc | apply Kd.V_drewN | apply Kd.V_drew)); exact HO_0.out) (Kd.R_base ho37) hb); have n1_ := Aside0.mk (Kd.R_elder' (by (with_reducible repeat (first | apply Kd.R_alloc | apply Kd.R_drewN | apply Kd.R_drew)); exact HO_5.out) (Kd.R_base ho37) hb); have n2_ := Aside0.mk (Kd.V_elder' (by (with_reducible repeat (first | apply Kd.V_alloc | apply Kd.V_drewN | apply Kd.V_drew)); exact HO_41.out) (Kd.R_base ho37) hb); have n3_ := Aside0.mk (Kd.R_lower (Kd.R_new' (Kd.R_newM (M := fun k_ => (w.heap.size ≤ k_)) ho37 (below_size (by repeat (first | (with_reducible first | exact HB.out | apply below_alloc | apply pw_below_drewN | apply below_drew1) | exact HB.out))) (fun k_ h_ => h_)) (Kd.R_lt (by (with_reducible repeat (first | apply Kd.R_alloc | apply Kd.R_drewN | apply Kd.R_drew)); exact HO_5.out))) (below_size (by repeat (first | (with_reducible first | exact HB.out | apply below_alloc | apply pw_below_drewN | apply below_drew1) | exact HB.out)))); have n4_ := Aside0.mk (below_step (by repeat (first | (with_reducible first | exact HB.out | apply below_alloc | apply pw_below_drewN | apply below_drew1) | exact HB.out)) hb); clear HO_0; clear HO_5; clear HO_41; clear HB; have HO_0 := n0_; have HO_5 := n1_; have HO_41 := n2_; have HO710 := n3_; have HB := n4_; clear n0_ n1_ n2_ n3_ n4_; clear hb ho37; obtain ⟨Ao38, co38, eo38⟩ := Kd.R_slice HO710.out; subst eo38) | ((with_reducible refine gate_callee (f := 32) rfl ?_); refine goesL_ (some 67) rfl rfl Try.func32 (by kernel_rfl) rfl #[.slice A0 l0.length c0, .slice Ao38 y708.length co38] rfl (by (try simp only [List.map_toArray, List.map_cons, List.map_nil]); first | done | rfl | (simp only [List.length_drop, List.length_take]; rfl)) ?_; (with_reducible refine (polynomial_DivMod.calls k2 _ _ l0 _ _ y708 t711 t712 t713 _ ?side1 ?side2 ?side3 ?side4 A32.out).mono ?_); (case side1 => repeat (first | exact (Kd.V_reads' HO_0.out).2.2 | (with_reducible refine Kd.C_alloc ?_ _) | (with_reducible refine Kd.C_drewN ?_ _) | (with_reducible refine Kd.C_drew ?_))); (case side2 => exact (Kd.V_reads' HO_0.out).2.1); (case side3 => repeat (first | exact (Kd.R_reads' HO710.out).2.2 | (with_reducible refine Kd.C_alloc ?_ _) | (with_reducible refine Kd.C_drewN ?_ _) | (with_reducible refine Kd.C_drew ?_))); (case side4 => exact (Kd.R_reads' HO710.out).2.1); rintro e w39 ⟨v714, v716, rfl, ho0, ho1, hb⟩; refine ⟨_, rfl, ?_⟩; have n0_ := Aside0.mk (Kd.V_mono (Kd.V_told (Kd.V_told (Kd.V_old (by (with_reducible repeat (first | apply Kd.V_alloc | apply Kd.V_drewN | apply Kd.V_drew)); exact HO_0.out) hb) (Kd.R_base ho0)) (Kd.R_base ho1)) (fun _ h_ => h_.1)); have n1_ := Aside0.mk (Kd.R_mono (Kd.R_told (Kd.R_told (Kd.R_old (by (with_reducible repeat (first | apply Kd.R_alloc | apply Kd.R_drewN | apply Kd.R_drew)); exact HO_5.out) hb) (Kd.R_base ho0)) (Kd.R_base ho1)) (fun _ h_ => h_.1)); have n2_ := Aside0.mk (Kd.V_mono (Kd.V_told (Kd.V_told (Kd.V_old (by (with_reducible repeat (first | apply Kd.V_alloc | apply Kd.V_drewN | apply Kd.V_drew)); exact HO_41.out) hb) (Kd.R_base ho0)) (Kd.R_base ho1)) (fun _ h_ => h_.1)); have n3_ := Aside0.mk (Kd.R_mono (Kd.R_told (Kd.R_told (Kd.R_old (by (with_reducible repeat (first | apply Kd.R_alloc | apply Kd.R_drewN | apply Kd.R_drew)); exact HO710.out) hb) (Kd.R_base ho0)) (Kd.R_base ho1)) (fun _ h_ => h_.1)); have n4_ := Aside0.mk (Kd.R_lower (Kd.R_new' (Kd.R_new' (Kd.R_newM (M := fun k_ => (w.heap.size ≤ k_)) ho0 (below_size (by repeat (first | (with_reducible first | exact HB.out | apply below_alloc | apply pw_below_drewN | apply below_drew1) | exact HB.out))) (fun k_ h_ => h_)) (Kd.R_lt (by (with_reducible repeat (first | apply Kd.R_alloc | apply Kd.R_drewN | apply Kd.R_drew)); exact HO_5.out))) (Kd.R_lt (by (with_reducible repeat (first | apply Kd.R_alloc | apply Kd.R_drewN | apply Kd.R_drew)); exact HO710.out))) (below_size (by repeat (first | (with_reducible first | exact HB.out | apply below_alloc | apply pw_below_drewN | apply below_drew1) | exact HB.out)))); have n5_ := Aside0.mk (Kd.R_lower (Kd.R_new' (Kd.R_new' (Kd.R_newM (M := fun k_ => (w.heap.size ≤ k_)) ho1 (below_size (by repeat (first | (with_reducible first | exact HB.out | apply below_alloc | apply pw_below_drewN | apply below_drew1) | exact HB.out))) (fun k_ h_ => h_)) (Kd.R_lt (by (with_reducible repeat (first | apply Kd.R_alloc | apply Kd.R_drewN | apply Kd.R_drew)); exact HO_5.out))) (Kd.R_lt (by (with_reducible repeat (first | apply Kd.R_alloc | apply Kd.R_drewN | apply Kd.R_drew)); exact HO710.out))) (below_size (by repeat (first | (with_reducible first | exact HB.out | apply below_alloc | apply pw_below_drewN | apply below_drew1) | exact HB.out)))); have n6_ := Aside0.mk (below_step (by repeat (first | (with_reducible first | exact HB.out | apply below_alloc | apply pw_below_drewN | apply below_drew1) | exact HB.out)) hb); clear HO_0; clear HO_5; clear HO_41; clear HO710; clear HB; have HO_0 := n0_; have HO_5 := n1_; have HO_41 := n2_; have HO710 := n3_; have HO715 := n4_; have HO717 := n5_; have HB := n6_; clear n0_ n1_ n2_ n3_ n4_ n5_ n6_; (try clear hb); (try clear hb2); (try clear hk); (try clear hi); (try clear ho0); (try clear ho1)) | ((with_reducible refine gate_callee (f := 38) rfl ?_); refine goesL_ (some 74) rfl rfl Try.func38 (by kernel_rfl) rfl #[.slice A0 l0.length c0, .int .u8 a1] rfl (by (try simp only [List.map_toArray, List.map_cons, List.map_nil]); first | done | rfl | (simp only [List.length_drop, List.length_take]; rfl)) ?_; (with_reducible refine (polynomial_Multiplicity.calls k2 _ _ l0 a1 t718 t719 _ ?side1 ?side2 A33.out).mono ?_); (case side1 => repeat (first | exact (Kd.V_reads' HO_0.out).2.2 | (with_reducible refine Kd.C_alloc ?_ _) | (with_reducible refine Kd.C_drewN ?_ _) | (with_reducible refine Kd.C_drew ?_))); (case side2 => exact (Kd.V_reads' HO_0.out).2.1); rintro e w40 ⟨rfl, hb⟩; refine ⟨_, rfl, ?_⟩; have n0_ := Aside0.mk (Kd.V_below (by (with_reducible repeat (first | apply Kd.V_alloc | apply Kd.V_drewN | apply Kd.V_drew)); exact HO_0.out) hb); have n1_ := Aside0.mk (Kd.R_below (by (with_reducible repeat (first | apply Kd.R_alloc | apply Kd.R_drewN | apply Kd.R_drew)); exact HO_5.out) hb); have n2_ := Aside0.mk (Kd.V_below (by (with_reducible repeat (first | apply Kd.V_alloc | apply Kd.V_drewN | apply Kd.V_drew)); exact HO_41.out) hb); have n3_ := Aside0.mk (Kd.R_below (by (with_reducible repeat (first | apply Kd.R_alloc | apply Kd.R_drewN | apply Kd.R_drew)); exact HO710.out) hb); have n4_ := Aside0.mk (Kd.R_below (by (with_reducible repeat (first | apply Kd.R_alloc | apply Kd.R_drewN | apply Kd.R_drew)); exact HO715.out) hb); have n5_ := Aside0.mk (Kd.R_below (by (with_reducible repeat (first | apply Kd.R_alloc | apply Kd.R_drewN | apply Kd.R_drew)); exact HO717.out) hb); have n6_ := Aside0.mk (below_step (by repeat (first | (with_reducible first | exact HB.out | apply below_alloc | apply pw_below_drewN | apply below_drew1) | exact HB.out)) hb); clear HO_0; clear HO_5; clear HO_41; clear HO710; clear HO715; clear HO717; clear HB; have HO_0 := n0_; have HO_5 := n1_; have HO_41 := n2_; have HO710 := n3_; have HO715 := n4_; have HO717 := n5_; have HB := n6_; clear n0_ n1_ n2_ n3_ n4_ n5_ n6_; (try clear hb); (try clear hb2); (try clear hk); (try clear hi)) | ((with_reducible refine gate_callee (f := 40) rfl ?_); refine goesL_ (some 79) rfl rfl Try.func40 (by kernel_rfl) rfl #[.slice A0 l0.length c0] rfl (by (try simp only [List.map_toArray, List.map_cons, List.map_nil]); first | done | rfl | (simp only [List.length_drop, List.length_take]; rfl)) ?_; (with_reducible refine (polynomial_Roots.calls k2 _ _ l0 t720 t721 _ ?side1 ?side2 A34.out).mono ?_); (case side1 => repeat (first | exact (Kd.V_reads' HO_0.out).2.2 | (with_reducible refine Kd.C_alloc ?_ _) | (with_reducible refine Kd.C_drewN ?_ _) | (with_reducible refine Kd.C_drew ?_))); (case side2 => exact (Kd.V_reads' HO_0.out).2.1); rintro e w41 ⟨v722, rfl, ho0, hb⟩; refine ⟨_, rfl, ?_⟩; have n0_ := Aside0.mk (Kd.V_elder' (by (with_reducible repeat (first | apply Kd.V_alloc | apply Kd.V_drewN | apply Kd.V_drew)); exact HO_0.out) (Kd.R_base ho0) hb); have n1_ := Aside0.mk (Kd.R_elder' (by (with_reducible repeat (first | apply Kd.R_alloc | apply Kd.R_drewN | apply Kd.R_drew)); exact HO_5.out) (Kd.R_base ho0) hb); have n2_ := Aside0.mk (Kd.V_elder' (by (with_reducible repeat (first | apply Kd.V_alloc | apply Kd.V_drewN | apply Kd.V_drew)); exact HO_41.out) (Kd.R_base ho0) hb); have n3_ := Aside0.mk (Kd.R_elder' (by (with_reducible repeat (first | apply Kd.R_alloc | apply Kd.R_drewN | apply Kd.R_drew)); exact HO710.out) (Kd.R_base ho0) hb); have n4_ := Aside0.mk (Kd.R_elder' (by (with_reducible repeat (first | apply Kd.R_alloc | apply Kd.R_drewN | apply Kd.R_drew)); exact HO715.out) (Kd.R_base ho0) hb); have n5_ := Aside0.mk (Kd.R_elder' (by (with_reducible repeat (first | apply Kd.R_alloc | apply Kd.R_drewN | apply Kd.R_drew)); exact HO717.out) (Kd.R_base ho0) hb); have n6_ := Aside0.mk (Kd.R_lower (Kd.R_new' (Kd.R_new' (Kd.R_new' (Kd.R_new' (Kd.R_newM (M := fun k_ => (w.heap.size ≤ k_)) ho0 (below_size (by repeat (first | (with_reducible first | exact HB.out | apply below_alloc | apply pw_below_drewN | apply below_drew1) | exact HB.out))) (fun k_ h_ => h_)) (Kd.R_lt (by (with_reducible repeat (first | apply Kd.R_alloc | apply Kd.R_drewN | apply Kd.R_drew)); exact HO_5.out))) (Kd.R_lt (by (with_reducible repeat (first | apply Kd.R_alloc | apply Kd.R_drewN | apply Kd.R_drew)); exact HO710.out))) (Kd.R_lt (by (with_reducible repeat (first | apply Kd.R_alloc | apply Kd.R_drewN | apply Kd.R_drew)); exact HO715.out))) (Kd.R_lt (by (with_reducible repeat (first | apply Kd.R_alloc | apply Kd.R_drewN | apply Kd.R_drew)); exact HO717.out))) (below_size (by repeat (first | (with_reducible first | exact HB.out | apply below_alloc | apply pw_below_drewN | apply below_drew1) | exact HB.out)))); have n7_ := Aside0.mk (below_step (by repeat (first | (with_reducible first | exact HB.out | apply below_alloc | apply pw_below_drewN | apply below_drew1) | exact HB.out)) hb); clear HO_0; clear HO_5; clear HO_41; clear HO710; clear HO715; clear HO717; clear HB; have HO_0 := n0_; have HO_5 := n1_; have HO_41 := n2_; have HO710 := n3_; have HO715 := n4_; have HO717 := n5_; have HO723 := n6_; have HB := n7_; clear n0_ n1_ n2_ n3_ n4_ n5_ n6_ n7_; (try clear hb); (try clear hb2); (try clear hk); (try clear hi); (try clear ho0); obtain ⟨Ao42, co42, eo42⟩ := Kd.R_slice HO723.out; subst eo42))
                      go_loopg [17, 84] k2 (fun kq v17 v84 w' => ∃ (x17_3 : Int) (x84_3 : Int), v17 = .int .i64 x17_3 ∧ v84 = .int .i64 x84_3 ∧ Aside0 (kinkeeplaw06_PolynomialFactors.l1 kq l0 a1 t712 t713 t718 t719 t721 x17_3 t720 (t720.length : Int) x84_3 = some r) ∧ Aside0 (kq ≤ k2) ∧ Aside0 (Kd.V (Kd.int .u8) 5 w' w.heap.size (fun k_ => (P0_ k_ ∨ w.heap.size ≤ k_) ∧ some k_ ≠ (v716 : Value).ownBlock ∧ some k_ ≠ ((.slice Ao42 t720.length co42) : Value).ownBlock) (.slice A0 l0.length c0) l0) ∧ Aside0 (Kd.R (Kd.int .u8) 5 w' w.heap.size (fun k_ => (w.heap.size ≤ k_) ∧ some k_ ≠ ((.slice Ao42 t720.length co42) : Value).ownBlock) v716 t712) ∧ Aside0 (Kd.R (Kd.int .u8) 5 w' w.heap.size (fun k_ => (w.heap.size ≤ k_) ∧ some k_ ≠ (v716 : Value).ownBlock) (.slice Ao42 t720.length co42) t720) ∧ Aside0 (Below w.heap.size w w'))
                      case atStart => exact ⟨(0), (0), (by first | rfl | (simp; done) | (simp [*]; done)), (by first | rfl | (simp; done) | (simp [*]; done)), H', ⟨Nat.le_refl _⟩, ⟨by (with_reducible repeat (first | apply Kd.V_alloc | apply Kd.V_drewN | apply Kd.V_drew)); exact Kd.V_mono HO_0.out (fun _ hk => ⟨hk.1.1.1.1.1, ⟨hk.1.2, hk.2⟩⟩)⟩, ⟨by (with_reducible repeat (first | apply Kd.R_alloc | apply Kd.R_drewN | apply Kd.R_drew)); exact Kd.R_mono HO717.out (fun _ hk => ⟨hk.1.1.1.1, hk.2⟩)⟩, ⟨by (with_reducible repeat (first | apply Kd.R_alloc | apply Kd.R_drewN | apply Kd.R_drew)); exact Kd.R_mono HO723.out (fun _ hk => ⟨hk.1.1.1.1.1, hk.2⟩)⟩, ⟨by repeat (first | (with_reducible first | exact HB.out | apply below_alloc | apply pw_below_drewN | apply below_drew1) | exact HB.out)⟩⟩
                      case round =>
                        clear H'
                        try clear c1
                        try clear c2
                        try clear p2
                        try clear c3
                        try clear c4
                        try clear c6
                        try clear p6
                        try clear p7
                        try clear q7
                        try clear hx7
                        try clear c11
                        try clear c13
                        try clear c17
                        try clear c18
                        try clear c18b0
                        try clear c18b1
                        try clear c21
                        try clear c22
                        try clear c22b0
                        try clear c23
                        try clear c23b0
                        try clear c24
                        try clear c24b0
                        try clear c25
                        try clear c27
                        try clear c27b0
                        try clear c27b1
                        try clear c27b2
                        try clear c29
                        try clear c30
                        try clear c30b0
                        try clear c32
                        try clear c38
                        try clear c39
                        try clear c40
                        try clear hx705_0
                        try clear p2
                        try clear p705
                        try clear q705
                        obtain ⟨x17_3, x84_3, rfl, rfl, HA, HK3, HO_0, HO_11, HO_82, HB⟩ := hrel
                        cases gk with
                        | zero => exact absurd HA.out (by simp [kinkeeplaw06_PolynomialFactors.l1])
                        | succ k3 =>
                          have H := HA.out
                          clear HA
                          simp only [kinkeeplaw06_PolynomialFactors.l1] at H
                          by_cases c43 : x84_3 < (t720.length : Int)
                          · rw [if_pos c43] at H
                            have c43b0 : decide (x84_3 < (t720.length : Int)) = true := decide_eq_true c43
                            clear c43
                            by_cases c44 : 0 ≤ x84_3
                            · rw [if_pos c44] at H
                              have c44b0 : decide (0 ≤ x84_3) = true := decide_eq_true c44
                              clear c44
                              by_cases c45 : x84_3 < (t720.length : Int)
                              · rw [if_pos c45] at H
                                have c45b0 : decide (x84_3 < (t720.length : Int)) = true := decide_eq_true c45
                                clear c45
                                replace H := Option.bind_eq_some_iff.mp H
                                obtain ⟨⟨t725, t726⟩, A460, H⟩ := H
                                replace H : (kinkeeplaw06_PolynomialFactors.l1 k3 l0 a1 t712 t713 t718 t719 t721 (wrap64 (x17_3 + t725)) t720 (t720.length : Int) (wrap64 (x84_3 + 1))) = some r := H
                                have A46 := Aside0.mk A460
                                clear A460
                                have H' := Aside0.mk H
                                clear H
                                have p724 : 0 ≤ (x84_3 : Int) := of_decide_eq_true (by first | (with_reducible assumption) | assumption)
                                have q724 : x84_3 < (t720.length : Int) := of_decide_eq_true (by first | (with_reducible assumption) | assumption)
                                obtain ⟨ad724, e724, hx724_0⟩ := Kd.at_int (Kd.R_reads' HO_82.out).2.2 x84_3 p724 q724
                                cases e724
                                replace p724 := eq_true p724
                                replace q724 := eq_true q724
                                go_wp2_with (first | ((with_reducible refine gate_callee (f := 38) rfl ?_); refine goesL_ (some 91) rfl rfl Try.func38 (by kernel_rfl) rfl #[.slice A0 l0.length c0, .int .u8 (rd t720 x84_3)] rfl (by (try simp only [List.map_toArray, List.map_cons, List.map_nil]); first | done | rfl | (simp only [List.length_drop, List.length_take]; rfl)) ?_; (with_reducible refine (polynomial_Multiplicity.calls k3 _ _ l0 (rd t720 x84_3) t725 t726 _ ?side1 ?side2 A46.out).mono ?_); (case side1 => repeat (first | exact (Kd.V_reads' HO_0.out).2.2 | (with_reducible refine Kd.C_alloc ?_ _) | (with_reducible refine Kd.C_drewN ?_ _) | (with_reducible refine Kd.C_drew ?_))); (case side2 => exact (Kd.V_reads' HO_0.out).2.1); rintro e w47 ⟨rfl, hb⟩; refine ⟨_, rfl, ?_⟩; have n0_ := Aside0.mk (Kd.V_below (by (with_reducible repeat (first | apply Kd.V_alloc | apply Kd.V_drewN | apply Kd.V_drew)); exact HO_0.out) hb); have n1_ := Aside0.mk (Kd.R_below (by (with_reducible repeat (first | apply Kd.R_alloc | apply Kd.R_drewN | apply Kd.R_drew)); exact HO_11.out) hb); have n2_ := Aside0.mk (Kd.R_below (by (with_reducible repeat (first | apply Kd.R_alloc | apply Kd.R_drewN | apply Kd.R_drew)); exact HO_82.out) hb); have n3_ := Aside0.mk (below_step (by repeat (first | (with_reducible first | exact HB.out | apply below_alloc | apply pw_below_drewN | apply below_drew1) | exact HB.out)) hb); clear HO_0; clear HO_11; clear HO_82; clear HB; have HO_0 := n0_; have HO_11 := n1_; have HO_82 := n2_; have HB := n3_; clear n0_ n1_ n2_ n3_; (try clear hb); (try clear hb2); (try clear hk); (try clear hi)))
                                go_roundg k3
                                case measure => have := HJ11.out; have := HK2.out; have := HK3.out; omega
                                case rel => exact ⟨(wrap64 (x17_3 + t725)), (wrap64 (x84_3 + 1)), (by first | rfl | (simp; done) | (simp [*]; done)), (by first | rfl | (simp; done) | (simp [*]; done)), H', ⟨by have := HJ11.out; have := HK2.out; have := HK3.out; omega⟩, ⟨by (with_reducible repeat (first | apply Kd.V_alloc | apply Kd.V_drewN | apply Kd.V_drew)); exact HO_0.out⟩, ⟨by (with_reducible repeat (first | apply Kd.R_alloc | apply Kd.R_drewN | apply Kd.R_drew)); exact HO_11.out⟩, ⟨by (with_reducible repeat (first | apply Kd.R_alloc | apply Kd.R_drewN | apply Kd.R_drew)); exact HO_82.out⟩, ⟨by repeat (first | (with_reducible first | exact HB.out | apply below_alloc | apply pw_below_drewN | apply below_drew1) | exact HB.out)⟩⟩
                              · rw [if_neg c45] at H
                                exact absurd H (by simp)
                            · rw [if_neg c44] at H
                              exact absurd H (by simp)
                          · rw [if_neg c43] at H
                            have c43b0 : decide (x84_3 < (t720.length : Int)) = false := decide_eq_false c43
                            clear c43
                            by_cases c48 : t713 = 0
                            · rw [if_pos c48] at H
                              have c48b0 : (t713 == 0) = true := beq_iff_eq.mpr c48
                              have c48b1 : (t713 != 0) = false := bne_eq_false_iff_eq.mpr c48
                              clear c48
                              by_cases c49 : t719 = 0
                              · rw [if_pos c49] at H
                                have c49b0 : (t719 == 0) = true := beq_iff_eq.mpr c49
                                have c49b1 : (t719 != 0) = false := bne_eq_false_iff_eq.mpr c49
                                clear c49
                                by_cases c50 : t721 = 0
                                · rw [if_pos c50] at H
                                  have c50b0 : (t721 == 0) = true := beq_iff_eq.mpr c50
                                  have c50b1 : (t721 != 0) = false := bne_eq_false_iff_eq.mpr c50
                                  clear c50
                                  replace H := Option.bind_eq_some_iff.mp H
                                  obtain ⟨t727, A510, H⟩ := H
                                  replace H : (if (((t712.length : Int) == 0) == (t727 == 0)) = true then (if ((decide (t718 > 0)) == ((t712.length : Int) == 0)) = true then ((polynomial_Degree.f k3 l0).bind fun t728 => (some (decide (x17_3 ≤ t728)))) else (some false)) else (some false)) = some r := H
                                  have A51 := Aside0.mk A510
                                  clear A510
                                  by_cases c52 : (((t712.length : Int) == 0) == (t727 == 0)) = true
                                  · rw [if_pos c52] at H
                                    have c52b0 : (((t712.length : Int) == 0) == (t727 == 0)) = true := c52
                                    (try (have c52b1 : decide (((t712.length : Int) == 0) = (t727 == 0)) = true := by simpa using c52))
                                    (try (have c52b2 : (((t712.length : Int) == 0) == (t727 == 0)) = true := by simpa using c52))
                                    clear c52
                                    by_cases c53 : ((decide (t718 > 0)) == ((t712.length : Int) == 0)) = true
                                    · rw [if_pos c53] at H
                                      have c53b0 : ((decide (t718 > 0)) == ((t712.length : Int) == 0)) = true := c53
                                      (try (have c53b1 : decide ((decide (t718 > 0)) = ((t712.length : Int) == 0)) = true := by simpa using c53))
                                      (try (have c53b2 : ((decide (t718 > 0)) == ((t712.length : Int) == 0)) = true := by simpa using c53))
                                      clear c53
                                      replace H := Option.bind_eq_some_iff.mp H
                                      obtain ⟨t728, A540, H⟩ := H
                                      replace H : (some (decide (x17_3 ≤ t728))) = some r := H
                                      have A54 := Aside0.mk A540
                                      clear A540
                                      obtain rfl := Option.some.inj H
                                      obtain ⟨Ao55, co55, eo55⟩ := Kd.R_slice HO_11.out
                                      subst eo55
                                      go_wp2_with (first | (go_at_call 29; (with_reducible refine (polynomial_Eval.calls k3 _ _ l0 a1 t727 _ ?side1 ?side2 A51.out).mono ?_); (case side1 => repeat (first | exact (Kd.V_reads' HO_0.out).2.2 | (with_reducible refine Kd.C_alloc ?_ _) | (with_reducible refine Kd.C_drewN ?_ _) | (with_reducible refine Kd.C_drew ?_))); (case side2 => exact (Kd.V_reads' HO_0.out).2.1); rintro e w' ⟨rfl, ⟨nd, rfl⟩⟩) | (go_at_call 17; (with_reducible refine (polynomial_Degree.calls k3 _ _ l0 t728 _ ?side1 ?side2 A54.out).mono ?_); (case side1 => repeat (first | exact (Kd.V_reads' HO_0.out).2.2 | (with_reducible refine Kd.C_alloc ?_ _) | (with_reducible refine Kd.C_drewN ?_ _) | (with_reducible refine Kd.C_drew ?_))); (case side2 => exact (Kd.V_reads' HO_0.out).2.1); rintro e w' ⟨rfl, ⟨nd, rfl⟩⟩))
                                      go_ret
                                      exact ⟨by first | rfl | (simp [errW_none, errW_some] <;> rfl) | (simp [*, errW_none, errW_some] <;> rfl), by repeat (first | (with_reducible first | exact HB.out | apply below_alloc | apply pw_below_drewN | apply below_drew1) | exact HB.out)⟩
                                    · rw [if_neg c53] at H
                                      have c53b0 : ((decide (t718 > 0)) == ((t712.length : Int) == 0)) = false := by simpa using c53
                                      (try (have c53b1 : decide ((decide (t718 > 0)) = ((t712.length : Int) == 0)) = false := by simpa using c53))
                                      (try (have c53b2 : ((decide (t718 > 0)) == ((t712.length : Int) == 0)) = false := by simpa using c53))
                                      (try (have c53b3 : ¬ ((decide (t718 > 0)) = ((t712.length : Int) == 0)) := by simpa using c53))
                                      clear c53
                                      obtain rfl := Option.some.inj H
                                      obtain ⟨Ao56, co56, eo56⟩ := Kd.R_slice HO_11.out
                                      subst eo56
                                      go_wp2_with (first | (go_at_call 29; (with_reducible refine (polynomial_Eval.calls k3 _ _ l0 a1 t727 _ ?side1 ?side2 A51.out).mono ?_); (case side1 => repeat (first | exact (Kd.V_reads' HO_0.out).2.2 | (with_reducible refine Kd.C_alloc ?_ _) | (with_reducible refine Kd.C_drewN ?_ _) | (with_reducible refine Kd.C_drew ?_))); (case side2 => exact (Kd.V_reads' HO_0.out).2.1); rintro e w' ⟨rfl, ⟨nd, rfl⟩⟩))
                                      go_ret
                                      exact ⟨by first | rfl | (simp [errW_none, errW_some] <;> rfl) | (simp [*, errW_none, errW_some] <;> rfl), by repeat (first | (with_reducible first | exact HB.out | apply below_alloc | apply pw_below_drewN | apply below_drew1) | exact HB.out)⟩
                                  · rw [if_neg c52] at H
                                    have c52b0 : (((t712.length : Int) == 0) == (t727 == 0)) = false := by simpa using c52
                                    (try (have c52b1 : decide (((t712.length : Int) == 0) = (t727 == 0)) = false := by simpa using c52))
                                    (try (have c52b2 : (((t712.length : Int) == 0) == (t727 == 0)) = false := by simpa using c52))
                                    (try (have c52b3 : ¬ (((t712.length : Int) == 0) = (t727 == 0)) := by simpa using c52))
                                    clear c52
                                    obtain rfl := Option.some.inj H
                                    obtain ⟨Ao57, co57, eo57⟩ := Kd.R_slice HO_11.out
                                    subst eo57
                                    go_wp2_with (first | (go_at_call 29; (with_reducible refine (polynomial_Eval.calls k3 _ _ l0 a1 t727 _ ?side1 ?side2 A51.out).mono ?_); (case side1 => repeat (first | exact (Kd.V_reads' HO_0.out).2.2 | (with_reducible refine Kd.C_alloc ?_ _) | (with_reducible refine Kd.C_drewN ?_ _) | (with_reducible refine Kd.C_drew ?_))); (case side2 => exact (Kd.V_reads' HO_0.out).2.1); rintro e w' ⟨rfl, ⟨nd, rfl⟩⟩))
                                    go_ret
                                    exact ⟨by first | rfl | (simp [errW_none, errW_some] <;> rfl) | (simp [*, errW_none, errW_some] <;> rfl), by repeat (first | (with_reducible first | exact HB.out | apply below_alloc | apply pw_below_drewN | apply below_drew1) | exact HB.out)⟩
                                · rw [if_neg c50] at H
                                  have c50b0 : (t721 == 0) = false := beq_eq_false_iff_ne.mpr c50
                                  have c50b1 : (t721 != 0) = true := bne_iff_ne.mpr c50
                                  obtain rfl := Option.some.inj H
                                  go_wp2
                                  go_ret
                                  exact ⟨by first | rfl | (simp [errW_none, errW_some] <;> rfl) | (simp [*, errW_none, errW_some] <;> rfl), by repeat (first | (with_reducible first | exact HB.out | apply below_alloc | apply pw_below_drewN | apply below_drew1) | exact HB.out)⟩
                              · rw [if_neg c49] at H
                                have c49b0 : (t719 == 0) = false := beq_eq_false_iff_ne.mpr c49
                                have c49b1 : (t719 != 0) = true := bne_iff_ne.mpr c49
                                obtain rfl := Option.some.inj H
                                go_wp2
                                go_ret
                                exact ⟨by first | rfl | (simp [errW_none, errW_some] <;> rfl) | (simp [*, errW_none, errW_some] <;> rfl), by repeat (first | (with_reducible first | exact HB.out | apply below_alloc | apply pw_below_drewN | apply below_drew1) | exact HB.out)⟩
                            · rw [if_neg c48] at H
                              have c48b0 : (t713 == 0) = false := beq_eq_false_iff_ne.mpr c48
                              have c48b1 : (t713 != 0) = true := bne_iff_ne.mpr c48
                              obtain rfl := Option.some.inj H
                              go_wp2
                              go_ret
                              exact ⟨by first | rfl | (simp [errW_none, errW_some] <;> rfl) | (simp [*, errW_none, errW_some] <;> rfl), by repeat (first | (with_reducible first | exact HB.out | apply below_alloc | apply pw_below_drewN | apply below_drew1) | exact HB.out)⟩
  · replace c4 := Bool.eq_false_iff.mpr c4
    subst c4
    have H1 : (some false) = some r := by rw [if_neg (show ¬ (false = true) by decide)] at H; exact H
    clear H
    have H := H1
    clear H1
    obtain rfl := Option.some.inj H
    go_enter Try.func11, Try.ntmps11
    go_wp2_with (first | ((with_reducible refine gate_callee (f := 13) rfl ?_); refine goesL_ (some 22) rfl rfl Try.func13 (by kernel_rfl) rfl #[] rfl (by (try simp only [List.map_toArray, List.map_cons, List.map_nil]); first | done | rfl | (simp only [List.length_drop, List.length_take]; rfl)) ?_; (with_reducible refine (kinkeeplaw06_awake.calls k  false _ A3.out).mono ?_); rintro e w58 ⟨rfl, hb⟩; refine ⟨_, rfl, ?_⟩; have n0_ := Aside0.mk (Kd.V_below (by (with_reducible repeat (first | apply Kd.V_alloc | apply Kd.V_drewN | apply Kd.V_drew)); exact HO0.out) hb); have n1_ := Aside0.mk (below_step (by repeat (first | (with_reducible first | exact HB.out | apply below_alloc | apply pw_below_drewN | apply below_drew1) | exact HB.out)) hb); clear HO0; clear HB; have HO0 := n0_; have HB := n1_; clear n0_ n1_; (try clear hb); (try clear hb2); (try clear hk); (try clear hi)))
    go_ret
    exact ⟨by first | rfl | (simp [errW_none, errW_some] <;> rfl) | (simp [*, errW_none, errW_some] <;> rfl), by repeat (first | (with_reducible first | exact HB.out | apply below_alloc | apply pw_below_drewN | apply below_drew1) | exact HB.out)⟩

/-- THE ONE PURE STATEMENT of kinkeeplaw06_PolynomialFactors: yours. -/
def kinkeeplaw06_PolynomialFactors.Pure : Prop := ∀ (l0 : List Int) (a1 : Int), l0.length ≤ maxLen → l0.length * 1 ≤ 140737488351232 → (∀ x ∈ l0, (Lit.int .u8 x).wf = true) → (Lit.int .u8 a1).wf = true → ∃ k, kinkeeplaw06_PolynomialFactors.f k l0 a1 = some true
theorem kinkeeplaw06_PolynomialFactors.walk (P : kinkeeplaw06_PolynomialFactors.Pure) (a0 : Option Addr) (len0 cap0 : Nat) (z0 : List Int) (a1 : Int) (w : World) (w0 : (a0 = none ∧ len0 = 0 ∧ cap0 = 0 ∧ z0 = []) ∨ ∃ x, a0 = some x ∧ len0 ≤ cap0 ∧ cap0 ≤ maxLen ∧ z0.length = cap0 ∧ (∀ i, i < z0.length → w.cell? (x.add i) = some (.int .u8 (z0.getD i 0))) ∧ ∀ n ∈ z0, (Lit.int .u8 n).wf = true) (y0 : len0 * 1 ≤ 140737488351232) (w1 : (Lit.int .u8 a1).wf = true) :
    Calls Try.prog 11 #[.slice a0 len0 cap0, .int .u8 a1] w fun e w' => e = .returned (.bool true) ∧ Below w.heap.size w w' := by
  obtain ⟨l0, rfl, hr0, hm0, hw0, hc0⟩ := ReadsInt.ofRowC w0
  obtain ⟨k, h⟩ := P l0 a1 hm0 y0 hw0 w1
  refine (kinkeeplaw06_PolynomialFactors.calls k (fun _ => True) _ _ l0 a1 true w (V_of_read (Kd.C_of_reads (d := (0 : Int)) (h1 := fun _ => rfl) hr0) hc0) h).mono ?_
  rintro e w' ⟨rfl, hd⟩
  exact ⟨rfl, hd⟩

end Go.Proofs.Ytjoiiclahcghbaa.PG
