/- What the printed functions of polynomial come to: division, greatest common divisor, derivative, roots, multiplicity, FromRoots, Interpolate. -/
import Derived.Test.YtjoiiclahcghbaaPGx3
import Derived.Test.YtjoiiclahcghbaaPGx20
import Derived.Test.YtjoiiclahcghbaaPGx21
import Derived.Test.YtjoiiclahcghbaaPs
import Derived.Test.YtjoiiclahcghbaaIt
namespace Go.Proofs.Ytjoiiclahcghbaa.PG
open Go.RowKit Go.Proofs.YtjoiiclahcghbaaW.PrintWords Go.Proofs.Ytjoiiclahcghbaa.Gf
theorem pScale_I (p : List F) (c : F) (hp : p.length ≤ 281474976710656) : gf256_Scale.f (IL p) (I c) = some (IL (p.map fun x => mul x c)) := by
  unfold gf256_Scale.f
  rw [if_pos ⟨I_range c, fun x hx => by
    obtain ⟨a, _, rfl⟩ := List.mem_map.1 hx
    exact I_range a, by rw [IL_length]; exact hp⟩, Fi_I]
  congr 1
  unfold IL
  rw [List.map_map, List.map_map]
  apply List.map_congr_left
  intro a _
  show I (mul (BitVec.ofNat 8 (I a).toNat) c) = I (mul a c)
  rw [show BitVec.ofNat 8 (I a).toNat = a by unfold I; simp]
/-! divide, DivMod -/
theorem set_zeros (i : Nat) (a : F) (l : List F) : (List.replicate (i + 1) 0#8 ++ l).set i a = List.replicate i 0#8 ++ a :: l := by
  induction i with
  | zero => rfl
  | succ i ih =>
    rw [List.replicate_succ, List.cons_append, List.set_cons_succ, ih, List.replicate_succ]
    rfl
theorem divide_l0_ev {q : List F} (iv : F) (h0 : q ≠ []) (hq : q.length ≤ 1000000) (i : Nat) : ∀ rest quo : List F, i + q.length ≤ rest.length + 1 → rest.length ≤ 1000000 →
    Ev (fun k => polynomial_divide.l0 k (IL q) (IL rest) (((q.length : Nat) : Int) - 1) (I iv) (IL (List.replicate i 0#8 ++ quo)) ((i : Int) - 1)) (IL (divGo q iv i rest quo).1, IL (trim (divGo q iv i rest quo).2)) := by
  have hl : 0 < q.length := List.length_pos_iff.2 h0
  induction i with
  | zero =>
    intro rest quo _ hr
    refine Ev.step (fun k => polynomial_divide.l0.eq_2 _ _ _ _ _ _ _) ?_
    simp only [if_neg (show ¬ (((0 : Nat) : Int) - 1 ≥ 0) by decide), List.replicate_zero, List.nil_append, divGo]
    exact Ev.bind (Trim_ev rest hr) (Ev.now _)
  | succ i ih =>
    intro rest quo hir hr
    refine Ev.step (fun k => polynomial_divide.l0.eq_2 _ _ _ _ _ _ _) ?_
    have hw : wrap64 ((i : Int) + (((q.length : Nat) : Int) - 1)) = ((i + (q.length - 1) : Nat) : Int) := by rw [w64 (by omega) (by omega)]; omega
    simp only [show (((i + 1 : Nat) : Int) - 1) = (i : Int) by omega, if_pos (show (i : Int) ≥ 0 by omega), hw, if_pos (show (0 : Int) ≤ ((i + (q.length - 1) : Nat) : Int) by omega), IL_length, if_pos (show ((i + (q.length - 1) : Nat) : Int) < (rest.length : Int) by omega), rd_co]
    refine Ev.bind (Mul_ev _ _) ?_
    have hlen : (i : Int) < ((List.replicate (i + 1) 0#8 ++ quo).length : Int) := by rw [List.length_append, List.length_replicate]; omega
    simp only [if_pos hlen]
    refine Ev.bind (addTo_ev (mul (co rest (i + (q.length - 1))) iv) i (by omega) hr) ?_
    simp only [Int.toNat_natCast, IL_set, set_zeros, w64 (show -1000000000000000 ≤ (i : Int) - 1 by omega) (by omega)]
    have := ih (addToL rest q (mul (co rest (i + (q.length - 1))) iv) i) (mul (co rest (i + (q.length - 1))) iv :: quo) (by rw [addToL_length]; omega) (by rw [addToL_length]; omega)
    rw [divGo]
    exact this
theorem divide_ev (p : List F) {q : List F} (hq : Nrm q) (h0 : q ≠ []) (hp : p.length ≤ 1000000) (hB : q.length ≤ 1000000) : Ev (fun k => polynomial_divide.f k (IL p) (IL q)) (IL (divP p q).1, IL (divP p q).2) := by
  have hl : 0 < q.length := List.length_pos_iff.2 h0
  have ht := trim_len p
  unfold polynomial_divide.f
  refine Ev.bind (Trim_ev p hp) ?_
  have hw : wrap64 (((q.length : Nat) : Int) - 1) = ((q.length - 1 : Nat) : Int) := by rw [w64 (by omega) (by omega)]; omega
  simp only [IL_length, hw, if_pos (show (0 : Int) ≤ ((q.length - 1 : Nat) : Int) by omega), if_pos (show ((q.length - 1 : Nat) : Int) < (q.length : Int) by omega), rd_co]
  refine Ev.bind (Inv_ev (hq.lead h0)) ?_
  have hm : mx (wrap64 (((trim p).length : Int) - ((q.length - 1 : Nat) : Int))) 0 = (((trim p).length - (q.length - 1) : Nat) : Int) := by
    rw [w64 (by omega) (by omega), mx]
    split <;> omega
  simp only [hm, if_pos (show (0 : Int) ≤ (((trim p).length - (q.length - 1) : Nat) : Int) by omega), Int.toNat_natCast, if_pos (show (trim p).length - (q.length - 1) ≤ 281474976710656 by omega), Option.bind_some, IL_replicate]
  simp only [IL_length, List.length_replicate, w64 (show -1000000000000000 ≤ (((trim p).length - (q.length - 1) : Nat) : Int) - 1 by omega) (by omega)]
  by_cases hs : (trim p).length < q.length
  · have hz : (trim p).length - (q.length - 1) = 0 := by omega
    have h2 : divP p q = ([], trim p) := by unfold divP; rw [hz, divGo, trim_trim]
    rw [h2, hz]
    refine Ev.step (fun k => polynomial_divide.l0.eq_2 _ _ _ _ _ _ _) ?_
    simp only [if_neg (show ¬ (((0 : Nat) : Int) - 1 ≥ 0) by decide)]
    have := Trim_ev (trim p) (by omega)
    rw [trim_trim] at this
    exact Ev.bind this (Ev.now _)
  · have := divide_l0_ev (inv (co q (q.length - 1))) h0 hB ((trim p).length - (q.length - 1)) (trim p) [] (by omega) (by omega)
    rw [List.append_nil, show ((q.length : Nat) : Int) - 1 = ((q.length - 1 : Nat) : Int) by omega] at this
    exact this
theorem DivMod_ev (p q : List F) (h0 : trim q ≠ []) (hp : p.length ≤ 1000000) (hB : q.length ≤ 1000000) : Ev (fun k => polynomial_DivMod.f k (IL p) (IL q)) (IL (divP p (trim q)).1, IL (divP p (trim q)).2, (0 : Int)) := by
  have hl : 0 < (trim q).length := List.length_pos_iff.2 h0
  have ht := trim_len q
  unfold polynomial_DivMod.f
  refine Ev.bind (Trim_ev q hB) ?_
  simp only [IL_length, if_neg (show ¬ ((trim q).length : Int) = 0 by omega)]
  exact Ev.bind (divide_ev p (nrm_trim q) h0 hp (by omega)) (Ev.now _)
theorem DivMod0_ev (p q : List F) (h0 : trim q = []) (hB : q.length ≤ 1000000) : Ev (fun k => polynomial_DivMod.f k (IL p) (IL q)) (([] : List Int), ([] : List Int), (1 : Int)) := by
  unfold polynomial_DivMod.f
  refine Ev.bind (Trim_ev q hB) ?_
  simp only [IL_length, h0, List.length_nil, Int.natCast_zero, if_true]
  exact Ev.now _
/-! GCD -/
theorem divP2_len (p : List F) {q : List F} (hq : Nrm q) (h0 : q ≠ []) : (divP p q).2.length < q.length := divP_len p hq h0
theorem GCD_l0_ev (n : Nat) : ∀ p q : List F, Nrm p → Nrm q → q.length < n → p.length ≤ 1000000 → q.length ≤ 1000000 → Ev (fun k => polynomial_GCD.l0 k (IL p) (IL q)) (IL (monic (gcdGo n p q))) := by
  induction n with
  | zero => intro p q _ _ h; omega
  | succ n ih =>
    intro p q hp hq hn hpl hql
    refine Ev.step (fun k => polynomial_GCD.l0.eq_2 _ _ _) ?_
    rw [gcdGo]
    by_cases h : q = []
    · subst h
      simp only [IL_length, List.length_nil, Int.natCast_zero, if_neg (show ¬ ((0 : Int) > 0) by decide), if_true]
      by_cases hp0 : p = []
      · subst hp0
        simp only [List.length_nil, Int.natCast_zero, if_true]
        exact Ev.now _
      · have hl : 0 < p.length := List.length_pos_iff.2 hp0
        have hw : wrap64 (((p.length : Nat) : Int) - 1) = ((p.length - 1 : Nat) : Int) := by rw [w64 (by omega) (by omega)]; omega
        simp only [if_neg (show ¬ (p.length : Int) = 0 by omega), hw, if_pos (show (0 : Int) ≤ ((p.length - 1 : Nat) : Int) by omega), if_pos (show ((p.length - 1 : Nat) : Int) < (p.length : Int) by omega), rd_co]
        refine Ev.bind (Inv_ev (hp.lead hp0)) ?_
        simp only [pScale_I p (inv (co p (p.length - 1))) (by omega), Option.bind_some]
        exact Ev.now _
    · have hl : 0 < q.length := List.length_pos_iff.2 h
      simp only [IL_length, if_pos (show (q.length : Int) > 0 by omega), if_neg h]
      have h2 := divP_len p hq h
      refine Ev.bind (divide_ev p hq h hpl hql) ?_
      exact ih q (divP p q).2 hq (divP_ok p hq h).2.2.1 (by omega) hql (by omega)
theorem GCD_ev (p q : List F) (hp : p.length ≤ 1000000) (hB : q.length ≤ 1000000) : Ev (fun k => polynomial_GCD.f k (IL p) (IL q)) (IL (gcdP p q)) := by
  have h1 := trim_len p
  have h2 := trim_len q
  unfold polynomial_GCD.f
  exact Ev.bind (Trim_ev p hp) (Ev.bind (Trim_ev q hB) (GCD_l0_ev _ _ _ (nrm_trim p) (nrm_trim q) (by omega) (by omega) (by omega)))
/-! Derivative -/
theorem Derivative_l0_ev (p : List F) (hB : p.length ≤ 1000000) (d : Nat) : ∀ j, p.length ≤ 2 * j + 1 + d → 2 * j ≤ p.length + 1 →
    Ev (fun k => polynomial_Derivative.l0 k (IL p) (IL (tab p.length (fun t => if t < 2 * j then dr (co p) t else 0#8))) ((2 * j + 1 : Nat) : Int)) (IL (derP p)) := by
  induction d with
  | zero =>
    intro j hj _
    refine Ev.step (fun k => polynomial_Derivative.l0.eq_2 _ _ _ _) ?_
    simp only [IL_length, if_neg (show ¬ (((2 * j + 1 : Nat) : Int) < (p.length : Int)) by omega)]
    refine Ev.bind (Trim_ev _ (by rw [tab_length]; exact hB)) ?_
    rw [show derP p = trim (tab p.length (fun t => if t < 2 * j then dr (co p) t else 0#8)) from ?_]
    · exact Ev.now _
    · unfold derP
      congr 1
      apply ext_co
      · rw [tab_length, tab_length]
      · rw [co_tab (dr_bel (co_bel p)), co_tab (fun i hi => ?_)]
        · funext t
          by_cases ht : t < 2 * j
          · rw [if_pos ht]
          · rw [if_neg ht]
            unfold dr
            split
            · exact co_bel p _ (by omega)
            · rfl
        · split
          · exact dr_bel (co_bel p) _ hi
          · rfl
  | succ d ih =>
    intro j hj hj2
    by_cases h : 2 * j + 1 < p.length
    · refine Ev.step (fun k => polynomial_Derivative.l0.eq_2 _ _ _ _) ?_
      have hw1 : wrap64 (((2 * j + 1 : Nat) : Int) - 1) = ((2 * j : Nat) : Int) := by rw [w64 (by omega) (by omega)]; omega
      have hw2 : wrap64 (((2 * j + 1 : Nat) : Int) + 2) = ((2 * (j + 1) + 1 : Nat) : Int) := by rw [w64 (by omega) (by omega)]; omega
      simp only [IL_length, if_pos (show (((2 * j + 1 : Nat) : Int) < (p.length : Int)) by omega), if_pos (show (0 : Int) ≤ ((2 * j + 1 : Nat) : Int) by omega), hw1, hw2, if_pos (show (0 : Int) ≤ ((2 * j : Nat) : Int) by omega), tab_length, if_pos (show ((2 * j : Nat) : Int) < (p.length : Int) by omega), rd_co, Int.toNat_natCast, IL_set]
      have := ih (j + 1) (by omega) (by omega)
      rw [show (tab p.length (fun t => if t < 2 * j then dr (co p) t else 0#8)).set (2 * j) (co p (2 * j + 1)) = tab p.length (fun t => if t < 2 * (j + 1) then dr (co p) t else 0#8) from ?_]
      · exact this
      · apply ext_co
        · rw [List.length_set, tab_length, tab_length]
        · funext t
          rw [co_set (by rw [tab_length]; omega)]
          rcases Nat.lt_or_ge t p.length with ht | ht
          · by_cases e : t = 2 * j
            · subst e
              rw [if_pos rfl]
              simp only [tab_at _ ht]
              rw [if_pos (by omega)]
              unfold dr
              rw [if_pos (by omega)]
            · rw [if_neg e]
              simp only [tab_at _ ht]
              by_cases h1 : t < 2 * j
              · rw [if_pos h1, if_pos (by omega)]
              · rw [if_neg h1]
                by_cases h2 : t < 2 * (j + 1)
                · rw [if_pos h2]
                  unfold dr
                  rw [if_neg (by omega)]
                · rw [if_neg h2]
          · rw [if_neg (by omega), co_bel _ t (by rw [tab_length]; exact ht), co_bel _ t (by rw [tab_length]; exact ht)]
    · exact (show ∀ d', p.length ≤ 2 * j + 1 + d' → Ev (fun k => polynomial_Derivative.l0 k (IL p) (IL (tab p.length (fun t => if t < 2 * j then dr (co p) t else 0#8))) ((2 * j + 1 : Nat) : Int)) (IL (derP p)) from fun _ _ => by
        refine Ev.step (fun k => polynomial_Derivative.l0.eq_2 _ _ _ _) ?_
        simp only [IL_length, if_neg (show ¬ (((2 * j + 1 : Nat) : Int) < (p.length : Int)) by omega)]
        refine Ev.bind (Trim_ev _ (by rw [tab_length]; exact hB)) ?_
        rw [show derP p = trim (tab p.length (fun t => if t < 2 * j then dr (co p) t else 0#8)) from ?_]
        · exact Ev.now _
        · unfold derP
          congr 1
          apply ext_co
          · rw [tab_length, tab_length]
          · rw [co_tab (dr_bel (co_bel p)), co_tab (fun i hi => ?_)]
            · funext t
              by_cases ht : t < 2 * j
              · rw [if_pos ht]
              · rw [if_neg ht]
                unfold dr
                split
                · exact co_bel p _ (by omega)
                · rfl
            · split
              · exact dr_bel (co_bel p) _ hi
              · rfl) 0 (by omega)
theorem Derivative_ev (p : List F) (hB : p.length ≤ 1000000) : Ev (fun k => polynomial_Derivative.f k (IL p)) (IL (derP p)) := by
  unfold polynomial_Derivative.f
  simp only [IL_length, Int.toNat_natCast, if_pos (show (0 : Int) ≤ (p.length : Int) by omega), if_pos (show p.length ≤ 281474976710656 by omega), IL_replicate]
  have := Derivative_l0_ev p hB p.length 0 (by omega) (by omega)
  rw [show tab p.length (fun t => if t < 2 * 0 then dr (co p) t else 0#8) = List.replicate p.length 0#8 from ext_co (by rw [tab_length, List.length_replicate]) (by
    rw [co_replicate]
    funext t
    rcases Nat.lt_or_ge t p.length with ht | ht
    · rw [tab_at _ ht]; rfl
    · exact co_bel _ t (by rw [tab_length]; exact ht))] at this
  exact this
/-! Roots, Multiplicity -/
theorem byteI (i : Nat) : ((i : Int)) % 256 = I (BitVec.ofNat 8 i) := by
  unfold I
  rw [BitVec.toNat_ofNat]
  omega
theorem Roots_l0_ev (p : List F) (hB : p.length ≤ 1000000) (d : Nat) : ∀ (i : Nat) (acc : List F), i + d = 256 → acc.length ≤ i → Ev (fun k => polynomial_Roots.l0 k (IL p) (IL acc) (i : Int)) (IL (acc ++ rootsGo p d i), (0 : Int)) := by
  induction d with
  | zero =>
    intro i acc hi _
    refine Ev.step (fun k => polynomial_Roots.l0.eq_2 _ _ _ _) ?_
    simp only [if_neg (show ¬ ((i : Int) < 256) by omega), rootsGo, List.append_nil]
    exact Ev.now _
  | succ d ih =>
    intro i acc hi ha
    refine Ev.step (fun k => polynomial_Roots.l0.eq_2 _ _ _ _) ?_
    have hw : wrap64 ((i : Int) + 1) = ((i + 1 : Nat) : Int) := by rw [w64 (by omega) (by omega)]; omega
    simp only [if_pos (show ((i : Int) < 256) by omega), byteI, hw]
    refine Ev.bind (Eval_ev p _ hB) ?_
    rw [rootsGo]
    by_cases h : ev p (BitVec.ofNat 8 i) = 0#8
    · simp only [I_eq_zero, if_pos h, IL_length, if_pos (show acc.length < 140737488355328 by omega), IL_snoc]
      have := ih (i + 1) (acc ++ [BitVec.ofNat 8 i]) (by omega) (by rw [List.length_append, List.length_singleton]; omega)
      rw [List.append_assoc] at this
      exact this
    · simp only [I_eq_zero, if_neg h]
      exact ih (i + 1) acc (by omega) (by omega)
theorem Roots_ev (p : List F) (hB : p.length ≤ 1000000) (h0 : trim p ≠ []) : Ev (fun k => polynomial_Roots.f k (IL p)) (IL (rootsP p), (0 : Int)) := by
  have hl : 0 < (trim p).length := List.length_pos_iff.2 h0
  unfold polynomial_Roots.f
  refine Ev.bind (Degree_ev p hB) ?_
  simp only [if_neg (show ¬ (((trim p).length : Int) - 1 < 0) by omega)]
  exact Roots_l0_ev p hB 256 0 [] (by omega) (by simp)
theorem Roots0_ev (p : List F) (hB : p.length ≤ 1000000) (h0 : trim p = []) : Ev (fun k => polynomial_Roots.f k (IL p)) (([] : List Int), (1 : Int)) := by
  unfold polynomial_Roots.f
  refine Ev.bind (Degree_ev p hB) ?_
  simp only [h0, List.length_nil, if_pos (show (((0 : Nat) : Int) - 1 < 0) by decide)]
  exact Ev.now _
theorem root_IL (x : F) : ([I x, 1] : List Int) = IL [x, 1#8] := rfl
theorem Multiplicity_l0_ev (x : F) (m : Nat) : ∀ (p : List F) (n : Nat), Nrm p → p ≠ [] → p.length ≤ m → n + p.length ≤ 1000000 → Ev (fun k => polynomial_Multiplicity.l0 k (IL p) (I x) (n : Int)) (((n + multGo m p x : Nat) : Int), (0 : Int)) := by
  induction m with
  | zero => intro p n _ h0 h; exact absurd (List.eq_nil_of_length_eq_zero (by omega)) h0
  | succ m ih =>
    intro p n hp h0 hm hB
    refine Ev.step (fun k => polynomial_Multiplicity.l0.eq_2 _ _ _ _) ?_
    have hl : 0 < p.length := List.length_pos_iff.2 h0
    have hw : wrap64 ((n : Int) + 1) = ((n + 1 : Nat) : Int) := by rw [w64 (by omega) (by omega)]; omega
    refine Ev.bind (Eval_ev p x (by omega)) ?_
    rw [multGo]
    by_cases h : ev p x = 0#8
    · simp only [I_eq_zero, if_pos h, root_IL, hw]
      refine Ev.bind (divide_ev p (nrm_root x) (by simp) (by omega) (by simp)) ?_
      obtain ⟨q0, q1, q2⟩ := quo_root hp h0 h
      have := ih _ (n + 1) q1 q0 (by omega) (by omega)
      rw [show n + 1 + multGo m (divP p [x, 1#8]).1 x = n + (multGo m (divP p [x, 1#8]).1 x + 1) by omega] at this
      exact this
    · simp only [I_eq_zero, if_neg h]
      exact Ev.now _
theorem Multiplicity_ev (p : List F) (x : F) (hB : p.length ≤ 1000000) (h0 : trim p ≠ []) : Ev (fun k => polynomial_Multiplicity.f k (IL p) (I x)) (((multP p x : Nat) : Int), (0 : Int)) := by
  have hl : 0 < (trim p).length := List.length_pos_iff.2 h0
  have ht := trim_len p
  unfold polynomial_Multiplicity.f
  refine Ev.bind (Trim_ev p hB) ?_
  simp only [IL_length, if_neg (show ¬ (((trim p).length : Int) = 0) by omega)]
  have := Multiplicity_l0_ev x (trim p).length (trim p) 0 (nrm_trim p) h0 (Nat.le_refl _) (by omega)
  rw [Nat.zero_add] at this
  exact this
theorem Multiplicity0_ev (p : List F) (x : F) (hB : p.length ≤ 1000000) (h0 : trim p = []) : Ev (fun k => polynomial_Multiplicity.f k (IL p) (I x)) ((0 : Int), (1 : Int)) := by
  unfold polynomial_Multiplicity.f
  refine Ev.bind (Trim_ev p hB) ?_
  simp only [IL_length, h0, List.length_nil, Int.natCast_zero, if_true]
  exact Ev.now _
/-! FromRoots -/
theorem frLoop_ev (l : List F) : ∀ acc : List F, acc ≠ [] → acc.length + l.length ≤ 100000 → Ev (fun k => frLoop k (IL l) (IL acc)) (IL (frL l acc)) := by
  induction l with
  | nil => intro acc _ _; exact Ev.now _
  | cons x l ih =>
    intro acc h0 hB
    have hlen := prodL_one_length (x := x) h0
    rw [List.length_cons] at hB
    show Ev (fun k => (polynomial_product.f k [I x, 1] (IL acc)).bind fun t => frLoop k (IL l) t) _
    simp only [root_IL]
    refine Ev.bind (product_ev [x, 1#8] acc (by simp; omega)) ?_
    rw [frL]
    exact ih _ (fun e => by rw [e] at hlen; simp at hlen) (by omega)
theorem FromRoots_ev (l : List F) (hB : l.length ≤ 1023) : Ev (fun k => polynomial_FromRoots.f k (IL l)) (IL (frL l [1#8]), (0 : Int)) := by
  unfold polynomial_FromRoots.f
  simp only [IL_length, if_neg (show ¬ (1023 < l.length) by omega)]
  exact Ev.bind (frLoop_ev l [1#8] (by simp) (by simp; omega)) (Ev.now _)
theorem FromRoots_big (l : List F) (hB : 1023 < l.length) : Ev (fun k => polynomial_FromRoots.f k (IL l)) (([] : List Int), (2 : Int)) := by
  unfold polynomial_FromRoots.f
  simp only [IL_length, if_pos hB]
  exact Ev.now _
/-! Interpolate -/
theorem among_IL (p : List F) (x : F) (j : Nat) : j ≤ p.length → (among (IL p) (I x) j = true ↔ x ∈ p.take j) := by
  induction j with
  | zero => intro _; simp [among]
  | succ j ih =>
    intro hj
    have hj' : j < p.length := by omega
    rw [among, Bool.or_eq_true, ih (by omega), beq_iff_eq, rd_IL hj', List.take_succ_eq_append_getElem hj', List.mem_append, List.mem_singleton]
    have : (I p[j]).toNat = (I x).toNat ↔ x = p[j] := by
      unfold I
      rw [Int.toNat_natCast, Int.toNat_natCast]
      exact ⟨fun h => (BitVec.eq_of_toNat_eq h).symm, fun h => by rw [h]⟩
    rw [this]
theorem distD_IL (p : List F) (d : Nat) : ∀ j, j + d = p.length → (p.take j).Nodup → (distD (IL p) d j = true ↔ p.Nodup) := by
  induction d with
  | zero => intro j hj h; rw [show j = p.length by omega, List.take_length] at h; simp [distD, h]
  | succ d ih =>
    intro j hj h
    have hj' : j < p.length := by omega
    rw [distD, Bool.and_eq_true, Bool.not_eq_true', rd_IL hj']
    by_cases ha : p[j] ∈ p.take j
    · have h1 := (among_IL p p[j] j (by omega)).2 ha
      rw [h1]
      refine ⟨fun e => by simp at e, fun e => ?_⟩
      have h2 : (p.take (j + 1)).Nodup := e.sublist (List.take_sublist _ _)
      rw [List.take_succ_eq_append_getElem hj', List.nodup_append] at h2
      exact absurd rfl (h2.2.2 _ ha _ (by simp))
    · have h1 : among (IL p) (I p[j]) j = false := by
        rw [← Bool.not_eq_true]
        exact fun e => ha ((among_IL p p[j] j (by omega)).1 e)
      rw [h1, ih (j + 1) (by omega) (by
        rw [List.take_succ_eq_append_getElem hj', List.nodup_append]
        refine ⟨h, by simp, fun a h1 b h2 => ?_⟩
        rw [List.mem_singleton] at h2
        subst h2
        exact fun e => ha (e ▸ h1))]
      simp
theorem dist_IL (p : List F) : distD (IL p) p.length 0 = true ↔ p.Nodup := distD_IL p p.length 0 (by omega) (by simp)
theorem distinct_I (p : List F) (hB : p.length ≤ 140737488355328) : kinkeeplaw06_distinct.f (IL p) = some (decide p.Nodup) := by
  unfold kinkeeplaw06_distinct.f
  rw [if_pos ⟨fun x hx => by
    obtain ⟨a, _, rfl⟩ := List.mem_map.1 hx
    exact I_range a, by rw [IL_length]; exact hB⟩, IL_length]
  congr 1
  rw [Bool.eq_iff_iff, dist_IL, decide_eq_true_iff]
theorem itLoop_ev : ∀ (xs ys out base done : List F), xs.length = ys.length → xs.Nodup → (∀ x ∈ xs, x ∉ done) → Nrm out → Bel done.length (co out) → base.length = done.length + 1 → (∀ z, ev base z = 0#8 ↔ z ∈ done) → done.length + xs.length ≤ 1000 →
    Ev (fun k => itLoop k (IL xs) (IL ys) (IL out) (IL base)) (IL (itGo xs ys out base)) := by
  intro xs
  induction xs with
  | nil => intro ys out base done _ _ _ _ _ _ _ _; exact Ev.now _
  | cons x xs ih =>
    intro ys out base done hl hn hd h1 h2 h3 h4 hB
    match ys, hl with
    | y :: ys, hl =>
      rw [List.length_cons] at hB
      obtain ⟨hx, hn'⟩ := List.nodup_cons.1 hn
      have hbx : ev base x ≠ 0#8 := fun e => hd x (by simp) ((h4 x).1 e)
      have hb0 : base ≠ [] := fun e => by rw [e] at h3; simp at h3
      have hol : out.length ≤ done.length := by
        have := trim_len_le h2
        rwa [h1] at this
      rw [itGo]
      show Ev (fun k => (polynomial_Eval.f k (IL out) (I x)).bind fun e1 => (polynomial_Eval.f k (IL base) (I x)).bind fun e2 => (gf256_Div.f k (Go.bits .xor .u8 (I y) e1) e2).bind fun c => (gf256_Scale.f (IL base) c.1).bind fun sc => (polynomial_Add.f k (IL out) sc).bind fun out1 => (polynomial_product.f k [I x, 1] (IL base)).bind fun base1 => itLoop k (IL xs) (IL ys) out1 base1) _
      refine Ev.bind (Eval_ev out x (by omega)) (Ev.bind (Eval_ev base x (by omega)) ?_)
      simp only [xor_I, root_IL]
      refine Ev.bind (Div_ev hbx) ?_
      simp only [pScale_I base _ (show base.length ≤ 281474976710656 by omega), Option.bind_some]
      refine Ev.bind (Add_ev _ _ (by omega) (by rw [List.length_map]; omega)) (Ev.bind (product_ev _ _ (by simp; omega)) ?_)
      refine ih ys _ _ (x :: done) (by simpa using hl) hn' (fun z hz hz' => by
          rcases List.mem_cons.1 hz' with h | h
          · exact hx (h ▸ hz)
          · exact hd z (by simp [hz]) h) (nrm_addP _ _) (by
          rw [co_addP, map_mul, co_scL, List.length_cons]
          exact (h2.mono (by omega)).ad (Bel.sm _ (h3 ▸ co_bel base))) (by rw [prodL_one_length hb0, h3, List.length_cons]) (fun z => by
          rw [ev_prodL, ev_root, List.mem_cons, ← h4 z]
          constructor
          · intro h
            rcases mul_eq_zero h with h | h
            · exact .inl (BitVec.xor_eq_zero_iff.1 h)
            · exact .inr h
          · rintro (h | h)
            · rw [h, BitVec.xor_self, zero_mul]
            · rw [h, mul_zero]) (by rw [List.length_cons]; omega)
theorem Interpolate_ev {xs ys : List F} (hl : xs.length = ys.length) (hn : xs.Nodup) (hB : xs.length ≤ 1000) : Ev (fun k => polynomial_Interpolate.f k (IL xs) (IL ys)) (IL (itP xs ys), (0 : Int)) := by
  unfold polynomial_Interpolate.f
  simp only [IL_length, if_pos hl, (dist_IL xs).2 hn, if_true]
  have hc : (∀ x ∈ IL xs, 0 ≤ x ∧ x < 256) ∧ xs.length ≤ 140737488355328 := ⟨fun x hx => by
    obtain ⟨a, _, rfl⟩ := List.mem_map.1 hx
    exact I_range a, by omega⟩
  simp only [if_pos hc]
  exact Ev.bind (itLoop_ev xs ys [] [1#8] [] hl hn (by simp) nrm_nil (by rw [co_nil]; exact fun _ _ => rfl) rfl (fun z => by simp [ev_const]) (by simp; omega)) (Ev.now _)
theorem Interpolate_ne {xs ys : List F} (h : ¬ (xs.length = ys.length ∧ xs.Nodup)) (hB : xs.length ≤ 1000) : Ev (fun k => polynomial_Interpolate.f k (IL xs) (IL ys)) (([] : List Int), (1 : Int)) := by
  unfold polynomial_Interpolate.f
  simp only [IL_length]
  by_cases hl : xs.length = ys.length
  · have hn : ¬ xs.Nodup := fun e => h ⟨hl, e⟩
    have hc : (∀ x ∈ IL xs, 0 ≤ x ∧ x < 256) ∧ xs.length ≤ 140737488355328 := ⟨fun x hx => by
      obtain ⟨a, _, rfl⟩ := List.mem_map.1 hx
      exact I_range a, by omega⟩
    simp only [if_pos hl, if_pos hc, if_neg (fun e => hn ((dist_IL xs).1 e))]
    exact Ev.now _
  · simp only [if_neg hl]
    exact Ev.now _
end Go.Proofs.Ytjoiiclahcghbaa.PG
