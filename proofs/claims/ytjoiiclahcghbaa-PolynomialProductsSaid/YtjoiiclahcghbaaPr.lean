/- What the printed functions of the reference of polynomials come to: Trim, Degree, At, Add, Mul, DivMod, Eval. -/
import Derived.Test.YtjoiiclahcghbaaPGx23
import Derived.Test.YtjoiiclahcghbaaSr
import Derived.Test.YtjoiiclahcghbaaPt
namespace Go.Proofs.Ytjoiiclahcghbaa.PG
open Go.RowKit Go.Proofs.YtjoiiclahcghbaaW.PrintWords Go.Proofs.Ytjoiiclahcghbaa.Gf
/-! Trim, Degree, At -/
theorem rTrim_l0_ev (p : List F) (hB : p.length ≤ 1000000) (i : Nat) : i ≤ p.length → Ev (fun k => kinkeepref06_Trim.l0 k (IL p) (i : Int)) (IL (trim (p.take i))) := by
  induction i with
  | zero =>
    intro _
    refine Ev.step (fun k => kinkeepref06_Trim.l0.eq_2 _ _ _) ?_
    simp only [Int.natCast_zero, if_neg (show ¬ ((0 : Int) > 0) by decide), Option.bind_some, Int.toNat_zero, List.take_zero, List.length_nil, if_pos (show (0 : Int) ≤ 0 by decide), IL_length, if_pos (show (0 : Int) ≤ (p.length : Int) by omega), if_pos (show 0 + 0 < 140737488355328 by decide), List.append_nil]
    exact Ev.now _
  | succ i ih =>
    intro hi
    have hi' : i < p.length := by omega
    refine Ev.step (fun k => kinkeepref06_Trim.l0.eq_2 _ _ _) ?_
    have hw : wrap64 (((i + 1 : Nat) : Int) - 1) = (i : Int) := by rw [w64 (by omega) (by omega)]; omega
    rw [List.take_succ_eq_append_getElem hi']
    simp only [if_pos (show ((i + 1 : Nat) : Int) > 0 by omega), hw, if_pos (show (0 : Int) ≤ (i : Int) by omega), IL_length, if_pos (show (i : Int) < (p.length : Int) by omega), rd_IL hi', I_eq_zero]
    by_cases h0 : p[i] = 0#8
    · simp only [if_pos h0]
      rw [h0, trim_snoc_zero]
      exact ih (by omega)
    · simp only [if_neg h0, Option.bind_some, if_pos (show (0 : Int) ≤ ((i + 1 : Nat) : Int) by omega), if_pos (show ((i + 1 : Nat) : Int) ≤ (p.length : Int) by omega), Int.toNat_natCast, IL_take, IL_length, List.length_nil, List.length_take, if_pos (show 0 + min (i + 1) p.length < 140737488355328 by omega), List.nil_append]
      rw [trim_snoc h0, List.take_succ_eq_append_getElem hi']
      exact Ev.now _
theorem rTrim_ev (p : List F) (hB : p.length ≤ 1000000) : Ev (fun k => kinkeepref06_Trim.f k (IL p)) (IL (trim p)) := by
  unfold kinkeepref06_Trim.f
  simp only [IL_length]
  have := rTrim_l0_ev p hB p.length (Nat.le_refl _)
  rw [List.take_length] at this
  exact this
theorem rDegree_ev (p : List F) (hB : p.length ≤ 1000000) : Ev (fun k => kinkeepref06_Degree.f k (IL p)) (((trim p).length : Int) - 1) := by
  have ht := trim_len p
  unfold kinkeepref06_Degree.f
  refine Ev.bind (rTrim_ev p hB) ?_
  simp only [IL_length, w64 (show -1000000000000000 ≤ ((trim p).length : Int) - 1 by omega) (by omega)]
  exact Ev.now _
theorem rAt_I (p : List F) (i : Nat) : kinkeepref06_At.f (IL p) (i : Int) = some (I (co p i)) := by
  unfold kinkeepref06_At.f
  simp only [IL_length, if_pos (show (0 : Int) ≤ (i : Int) by omega), rd_co]
  by_cases h : i < p.length
  · rw [if_pos (by omega)]
  · rw [if_neg (by omega), co_bel p i (by omega)]
    rfl
/-! Add -/
theorem tab_succ (n : Nat) (f : Ser) : tab (n + 1) f = tab n f ++ [f n] := by simp [tab, List.range_succ]
theorem rAdd_l0_ev (p q : List F) (hp : p.length ≤ 1000000) (hq : q.length ≤ 1000000) (d : Nat) : ∀ i, i + d = max p.length q.length →
    Ev (fun k => kinkeepref06_Add.l0 k (IL p) (IL q) (IL (tab i (ad (co p) (co q)))) (i : Int)) (IL (addP p q)) := by
  induction d with
  | zero =>
    intro i hi
    refine Ev.step (fun k => kinkeepref06_Add.l0.eq_2 _ _ _ _ _) ?_
    simp only [IL_length, if_neg (show ¬ ((i : Int) < (p.length : Int)) by omega), decide_eq_false (show ¬ ((i : Int) < (q.length : Int)) by omega)]
    refine Ev.step (fun k => kinkeepref06_Add.j1.eq_2 _ _ _ _ _ _) ?_
    simp only [if_neg (show ¬ (false = true) by decide)]
    refine Ev.bind (rTrim_ev _ (by rw [tab_length]; omega)) ?_
    rw [addP, trim_of_co (p := addL p q) (q := tab i (ad (co p) (co q))) (by rw [co_addL, co_tab (((co_bel p).mono (by omega)).ad ((co_bel q).mono (by omega)))])]
    exact Ev.now _
  | succ d ih =>
    intro i hi
    have hj : Ev (fun k => kinkeepref06_Add.j1 k (IL p) (IL q) (IL (tab i (ad (co p) (co q)))) (i : Int) true) (IL (addP p q)) := by
      refine Ev.step (fun k => kinkeepref06_Add.j1.eq_2 _ _ _ _ _ _) ?_
      simp only [if_true, rAt_I, Option.bind_some, xor_I, IL_snoc, IL_length, tab_length, if_pos (show i < 140737488355328 by omega), w64 (show -1000000000000000 ≤ (i : Int) + 1 by omega) (by omega)]
      have := ih (i + 1) (by omega)
      rw [tab_succ] at this
      exact this
    refine Ev.step (fun k => kinkeepref06_Add.l0.eq_2 _ _ _ _ _) ?_
    by_cases h : i < p.length
    · simp only [IL_length, if_pos (show ((i : Int) < (p.length : Int)) by omega)]
      exact hj
    · simp only [IL_length, if_neg (show ¬ ((i : Int) < (p.length : Int)) by omega), decide_eq_true (show ((i : Int) < (q.length : Int)) by omega)]
      exact hj
theorem rAdd_ev (p q : List F) (hp : p.length ≤ 1000000) (hq : q.length ≤ 1000000) : Ev (fun k => kinkeepref06_Add.f k (IL p) (IL q)) (IL (addP p q)) :=
  rAdd_l0_ev p q hp hq (max p.length q.length) 0 (by omega)
/-! Mul -/
theorem row_set {P q : List F} (c : F) (n j : Nat) (hlt : n + j < P.length) : (tab P.length (ad (co P) (ups n (sm c (co (q.take j)))))).set (n + j) (co (tab P.length (ad (co P) (ups n (sm c (co (q.take j)))))) (n + j) ^^^ mul c (co q j)) = tab P.length (ad (co P) (ups n (sm c (co (q.take (j + 1)))))) := by
  have hlt2 : n + j < (tab P.length (ad (co P) (ups n (sm c (co (q.take j)))))).length := by rw [tab_length]; exact hlt
  apply ext_co
  · rw [List.length_set, tab_length, tab_length]
  · funext t
    rw [co_set hlt2]
    rcases Nat.lt_or_ge t P.length with ht | ht
    · by_cases e : t = n + j
      · subst e
        rw [if_pos rfl]
        simp only [tab_at _ ht]
        show (co P (n + j) ^^^ ups n (sm c (co (q.take j))) (n + j)) ^^^ mul c (co q j) = co P (n + j) ^^^ ups n (sm c (co (q.take (j + 1)))) (n + j)
        rw [ups_at, ups_at, if_neg (by omega), if_neg (by omega), show n + j - n = j by omega]
        show (co P (n + j) ^^^ mul c (co (q.take j) j)) ^^^ mul c (co q j) = co P (n + j) ^^^ mul c (co (q.take (j + 1)) j)
        rw [co_take, co_take, if_neg (by omega), if_pos (by omega), mul_zero, BitVec.xor_zero]
      · rw [if_neg e]
        simp only [tab_at _ ht]
        show co P t ^^^ ups n (sm c (co (q.take j))) t = co P t ^^^ ups n (sm c (co (q.take (j + 1)))) t
        rw [ups_at, ups_at]
        by_cases h1 : t < n
        · rw [if_pos h1, if_pos h1]
        · rw [if_neg h1, if_neg h1]
          show _ ^^^ mul c (co (q.take j) (t - n)) = _ ^^^ mul c (co (q.take (j + 1)) (t - n))
          rw [co_take, co_take]
          by_cases h2 : t - n < j
          · rw [if_pos h2, if_pos (by omega)]
          · rw [if_neg h2, if_neg (by omega)]
    · rw [if_neg (by omega), co_bel _ t (by rw [tab_length]; exact ht), co_bel _ t (by rw [tab_length]; exact ht)]
theorem rMul_l1_ev (p q P : List F) (i : Nat) (hi : i < p.length) (hP : P.length = p.length + q.length) (hB : p.length + q.length ≤ 1000000) (R : List Int)
    (hn : Ev (fun k => kinkeepref06_Mul.l0 k (IL p) (IL q) (IL (tab P.length (ad (co P) (ups i (sm (co p i) (co q)))))) (p.length : Int) ((i + 1 : Nat) : Int)) R) (d : Nat) : ∀ j, j + d = q.length →
    Ev (fun k => kinkeepref06_Mul.l1 k (IL p) (IL q) (IL (tab P.length (ad (co P) (ups i (sm (co p i) (co (q.take j))))))) (i : Int) (p.length : Int) (i : Int) (q.length : Int) (j : Int)) R := by
  induction d with
  | zero =>
    intro j hj
    refine Ev.step (fun k => kinkeepref06_Mul.l1.eq_2 _ _ _ _ _ _ _ _ _) ?_
    simp only [if_neg (show ¬ ((j : Int) < (q.length : Int)) by omega), w64 (show -1000000000000000 ≤ (i : Int) + 1 by omega) (by omega)]
    rw [show j = q.length by omega, List.take_length]
    exact hn
  | succ d ih =>
    intro j hj
    have hq : j < q.length := by omega
    refine Ev.step (fun k => kinkeepref06_Mul.l1.eq_2 _ _ _ _ _ _ _ _ _) ?_
    have hw : wrap64 ((i : Int) + (j : Int)) = ((i + j : Nat) : Int) := by rw [w64 (by omega) (by omega)]; omega
    simp only [hw, IL_length, tab_length, if_pos (show (j : Int) < (q.length : Int) by omega), if_pos (show (0 : Int) ≤ (j : Int) by omega), if_pos (show (0 : Int) ≤ (i : Int) by omega), if_pos (show (i : Int) < (p.length : Int) by omega), if_pos (show (0 : Int) ≤ ((i + j : Nat) : Int) by omega), if_pos (show ((i + j : Nat) : Int) < (P.length : Int) by omega), rd_co, Int.toNat_natCast, w64 (show -1000000000000000 ≤ (j : Int) + 1 by omega) (by omega)]
    refine Ev.bind (rMul_ev _ _) ?_
    simp only [xor_I, IL_set, row_set (q := q) (co p i) i j (show i + j < P.length by omega)]
    exact ih (j + 1) (by omega)
theorem rMul_l0p_ev (p q : List F) (hB : p.length + q.length ≤ 1000000) (d : Nat) : ∀ i, i + d = p.length →
    Ev (fun k => kinkeepref06_Mul.l0 k (IL p) (IL q) (IL (tab (p.length + q.length) (cv (co (p.take i)) (co q)))) (p.length : Int) (i : Int)) (IL (mulP p q)) := by
  induction d with
  | zero =>
    intro i hi
    refine Ev.step (fun k => kinkeepref06_Mul.l0.eq_2 _ _ _ _ _ _) ?_
    simp only [if_neg (show ¬ ((i : Int) < (p.length : Int)) by omega)]
    rw [show i = p.length by omega, List.take_length]
    refine Ev.bind (rTrim_ev _ (by rw [tab_length]; exact hB)) ?_
    rw [trim_of_co (q := mulP p q) (by rw [co_mulP, co_tab ((Bel.cv' (co_bel p) (co_bel q)).mono (by omega))]), nrm_mulP]
    exact Ev.now _
  | succ d ih =>
    intro i hi
    have hp : i < p.length := by omega
    refine Ev.step (fun k => kinkeepref06_Mul.l0.eq_2 _ _ _ _ _ _) ?_
    simp only [IL_length, if_pos (show (i : Int) < (p.length : Int) by omega)]
    have hb : Bel (p.length + q.length) (cv (co (p.take i)) (co q)) := (cv_take_bel p q i (by omega)).mono (by omega)
    have h := rMul_l1_ev p q (tab (p.length + q.length) (cv (co (p.take i)) (co q))) i hp (tab_length ..) hB (IL (mulP p q)) (by
      have := ih (i + 1) (by omega)
      rw [co_take_succ, cv_ad_left, cv_ups, cv_sm_left, on_cv] at this
      rw [tab_length, co_tab hb]
      exact this) q.length 0 (by omega)
    rw [List.take_zero, sm_ups_nil, ad_ze, tab_co] at h
    exact h
theorem rMulP_ev (p q : List F) (hB : p.length + q.length ≤ 1000000) : Ev (fun k => kinkeepref06_Mul.f k (IL p) (IL q)) (IL (mulP p q)) := by
  unfold kinkeepref06_Mul.f
  have hw : wrap64 ((p.length : Int) + (q.length : Int)) = ((p.length + q.length : Nat) : Int) := by rw [w64 (by omega) (by omega)]; omega
  simp only [IL_length, hw, if_pos (show (0 : Int) ≤ ((p.length + q.length : Nat) : Int) by omega), Int.toNat_natCast, if_pos (show p.length + q.length ≤ 281474976710656 by omega), IL_replicate]
  have := rMul_l0p_ev p q hB p.length 0 (by omega)
  rw [List.take_zero, co_nil, ze_cv, show tab (p.length + q.length) ze = List.replicate (p.length + q.length) 0#8 from ext_co (by rw [tab_length, List.length_replicate]) (by rw [co_tab (f := ze) (fun i _ => rfl), co_replicate])] at this
  exact this
/-! DivMod -/
theorem co_term (s : Nat) (c : F) : co (List.replicate s 0#8 ++ [c]) = ups s (sm c on) := by
  induction s with
  | zero => rw [List.replicate_zero, List.nil_append, co_const]; rfl
  | succ s ih => rw [List.replicate_succ, List.cons_append, co_zero_cons, ih]; rfl
theorem rDivMod_l0_ev {p q : List F} (hq : Nrm q) (h0 : q ≠ []) (hB : q.length ≤ 100000) (n : Nat) : ∀ r d : List F, r.length < n → r.length ≤ 100000 → Nrm r → r.length < d.length → d.length ≤ 100000 → co p = ad (cv (co d) (co q)) (co r) → (∀ t, t + q.length ≤ r.length → co d t = 0#8) →
    Ev (fun k => kinkeepref06_DivMod.l0 k (IL q) (IL r) (IL d) (I (inv (co q (q.length - 1))))) (IL (divP p q).1, IL (divP p q).2) := by
  have hl : 0 < q.length := List.length_pos_iff.2 h0
  induction n with
  | zero => intro r d h; omega
  | succ n ih =>
    intro r d hrn hrB hr hrd hdB he hz
    refine Ev.step (fun k => kinkeepref06_DivMod.l0.eq_2 _ _ _ _ _) ?_
    by_cases h : q.length ≤ r.length
    · have hr0 : r ≠ [] := fun e => by rw [e, List.length_nil] at h; omega
      have hw1 : wrap64 ((r.length : Int) - 1) = ((r.length - 1 : Nat) : Int) := by rw [w64 (by omega) (by omega)]; omega
      have hw2 : wrap64 ((r.length : Int) - (q.length : Int)) = ((r.length - q.length : Nat) : Int) := by rw [w64 (by omega) (by omega)]; omega
      have hw3 : wrap64 (((r.length - q.length : Nat) : Int) + 1) = ((r.length - q.length + 1 : Nat) : Int) := by rw [w64 (by omega) (by omega)]; omega
      simp only [IL_length, if_pos (show (r.length : Int) ≥ (q.length : Int) by omega), hw1, hw2, hw3, if_pos (show (0 : Int) ≤ ((r.length - 1 : Nat) : Int) by omega), if_pos (show ((r.length - 1 : Nat) : Int) < (r.length : Int) by omega), rd_co]
      refine Ev.bind (rMul_ev _ _) ?_
      simp only [if_pos (show (0 : Int) ≤ ((r.length - q.length : Nat) : Int) by omega), if_pos (show ((r.length - q.length : Nat) : Int) < (d.length : Int) by omega), if_pos (show (0 : Int) ≤ ((r.length - q.length + 1 : Nat) : Int) by omega), Int.toNat_natCast, if_pos (show r.length - q.length + 1 ≤ 281474976710656 by omega), Option.bind_some, IL_replicate, IL_set]
      simp only [IL_length, List.length_replicate, if_pos (show ((r.length - q.length : Nat) : Int) < ((r.length - q.length + 1 : Nat) : Int) by omega)]
      have hset := set_zeros (r.length - q.length) (mul (co r (r.length - 1)) (inv (co q (q.length - 1)))) []
      rw [List.append_nil] at hset
      simp only [hset]
      generalize hc : mul (co r (r.length - 1)) (inv (co q (q.length - 1))) = c
      generalize hs : r.length - q.length = s
      have hcoM : co (mulP (List.replicate s 0#8 ++ [c]) q) = ups s (sm c (co q)) := by rw [co_mulP, co_term, cv_ups, cv_sm_left, on_cv]
      have hMlen : (mulP (List.replicate s 0#8 ++ [c]) q).length ≤ s + q.length := by
        have := trim_len_le (p := mulP (List.replicate s 0#8 ++ [c]) q) (n := s + q.length) (by
          rw [co_mulP]
          exact (Bel.cv' (co_bel _) (co_bel q)).mono (by simp <;> omega))
        rwa [nrm_mulP] at this
      have hbel : Bel (r.length - 1) (co (addP r (mulP (List.replicate s 0#8 ++ [c]) q))) := by
        intro t ht
        rw [co_addP, hcoM]
        show co r t ^^^ ups s (sm c (co q)) t = 0#8
        rw [ups_at, if_neg (by omega)]
        rcases Nat.lt_or_ge (r.length - 1) t with hlt | hge
        · rw [co_bel r t (by omega)]
          show 0#8 ^^^ mul c (co q (t - s)) = 0#8
          rw [co_bel q (t - s) (by omega), mul_zero]
          rfl
        · obtain rfl : t = r.length - 1 := by omega
          show co r _ ^^^ mul c (co q (r.length - 1 - s)) = 0#8
          rw [show r.length - 1 - s = q.length - 1 by omega, ← hc, mul_assoc, mul_comm (inv _), inv_ok _ (hq.lead h0), mul_one]
          exact BitVec.xor_self
      have hr1 : (addP r (mulP (List.replicate s 0#8 ++ [c]) q)).length ≤ r.length - 1 := by
        have := trim_len_le hbel
        rwa [nrm_addP] at this
      have hcod : co (d.set s c) = ad (co d) (ups s (sm c on)) := by
        funext t
        rw [co_set (by omega)]
        show _ = co d t ^^^ ups s (sm c on) t
        rw [ups_at]
        rcases Nat.lt_trichotomy t s with h1 | h1 | h1
        · rw [if_neg (by omega), if_pos h1, BitVec.xor_zero]
        · subst h1
          rw [if_pos rfl, if_neg (by omega), hz t (by omega)]
          simp [sm, on, mul_one]
        · rw [if_neg (by omega), if_neg (by omega)]
          simp [sm, on, show ¬ t - s = 0 by omega, mul_zero]
      refine Ev.bind (rMulP_ev _ _ (by simp <;> omega)) (Ev.bind (rAdd_ev _ _ (by omega) (by omega)) ?_)
      have h1 := List.length_pos_iff.2 hr0
      refine ih _ (d.set s c) (by omega) (by omega) (nrm_addP _ _) (by rw [List.length_set]; omega) (by rw [List.length_set]; exact hdB) ?_ (fun t ht => ?_)
      · rw [hcod, co_addP, hcoM, cv_ad_left, cv_ups, cv_sm_left, on_cv, he, ad_comm (co r), ← ad_assoc, ad_assoc (cv (co d) (co q)), ad_self, ad_ze]
      · rw [co_set (by omega), if_neg (by omega)]
        exact hz t (by omega)
    · simp only [IL_length, if_neg (show ¬ ((r.length : Int) ≥ (q.length : Int)) by omega)]
      refine Ev.bind (rTrim_ev d (by omega)) ?_
      have hI : divP p q = (trim d, r) := divP_eq hq h0 ⟨by rw [co_trim, he], fun i hi => co_bel r i (by omega)⟩ (nrm_trim d) hr
      rw [hI]
      exact Ev.now _
theorem rDivMod_ev (p q : List F) (h0 : trim q ≠ []) (hp : p.length ≤ 10000) (hB : q.length ≤ 10000) : Ev (fun k => kinkeepref06_DivMod.f k (IL p) (IL q)) (IL (divP p (trim q)).1, IL (divP p (trim q)).2) := by
  have hl : 0 < (trim q).length := List.length_pos_iff.2 h0
  have h1 := trim_len p
  have h2 := trim_len q
  unfold kinkeepref06_DivMod.f
  refine Ev.bind (rTrim_ev p (by omega)) (Ev.bind (rTrim_ev q (by omega)) ?_)
  have hw1 : wrap64 ((p.length : Int) + 1) = ((p.length + 1 : Nat) : Int) := by rw [w64 (by omega) (by omega)]; omega
  have hw2 : wrap64 (((trim q).length : Int) - 1) = (((trim q).length - 1 : Nat) : Int) := by rw [w64 (by omega) (by omega)]; omega
  simp only [IL_length, hw1, hw2, if_pos (show (0 : Int) ≤ ((p.length + 1 : Nat) : Int) by omega), Int.toNat_natCast, if_pos (show p.length + 1 ≤ 281474976710656 by omega), if_pos (show (0 : Int) ≤ (((trim q).length - 1 : Nat) : Int) by omega), if_pos (show (((trim q).length - 1 : Nat) : Int) < ((trim q).length : Int) by omega), rd_co, IL_replicate]
  refine Ev.bind (rInv_ev ((nrm_trim q).lead h0)) ?_
  refine rDivMod_l0_ev (nrm_trim q) h0 (by omega) ((trim p).length + 1) (trim p) (List.replicate (p.length + 1) 0#8) (by omega) (by omega) (nrm_trim p) (by rw [List.length_replicate]; omega) (by rw [List.length_replicate]; omega) ?_ (fun t _ => ?_)
  · rw [co_replicate, ze_cv, ze_ad, co_trim]
  · rw [co_replicate]; rfl
theorem const_IL (c : F) : ([I c] : List Int) = IL [c] := rfl
theorem mulP_const_len (b : List F) (c : F) : (mulP b [c]).length ≤ b.length := by
  have := trim_len_le (p := mulP b [c]) (n := b.length) (by
    rw [co_mulP, co_const, cv_sm_right, cv_on]
    exact Bel.sm _ (co_bel b))
  rwa [nrm_mulP] at this
theorem mulP_root_len (b : List F) (x : F) : (mulP b [x, 1#8]).length ≤ b.length + 1 := by
  have := trim_len_le (p := mulP b [x, 1#8]) (n := b.length + 1) (by
    rw [co_mulP]
    exact (Bel.cv' (co_bel b) (co_bel [x, 1#8])).mono (by simp <;> omega))
  rwa [nrm_mulP] at this
/-! Eval -/
theorem rPowL_ev (a : F) (n : Nat) : ∀ t : Nat, n < 1000 → Ev (fun k => kinkeepref02_Pow.l0 k (I a) (n : Int) (I (pow a t))) (I (pow a (t + n))) := by
  induction n with
  | zero =>
    intro t _
    refine Ev.step (fun k => kinkeepref02_Pow.l0.eq_2 _ _ _ _) ?_
    simp only [if_neg (show ¬ (((0 : Nat) : Int) > 0) by decide)]
    exact Ev.now _
  | succ n ih =>
    intro t hn
    refine Ev.step (fun k => kinkeepref02_Pow.l0.eq_2 _ _ _ _) ?_
    simp only [if_pos (show ((n + 1 : Nat) : Int) > 0 by omega), show wrap64 (((n + 1 : Nat) : Int) - 1) = (n : Int) by unfold wrap64; omega]
    refine Ev.bind (rMul_ev _ _) ?_
    have := ih (t + 1) (by omega)
    rw [show t + 1 + n = t + (n + 1) by omega] at this
    exact this
theorem pow_zero_succ (n : Nat) : pow 0#8 (n + 1) = 0#8 := by rw [pow, mul_zero]
theorem rPowS_ev (a : F) (n : Nat) (hn : n < 255) : Ev (fun k => kinkeepref02_Pow.f k (I a) (n : Int)) (I (pow a n)) := by
  unfold kinkeepref02_Pow.f
  by_cases h : a = 0#8
  · subst h
    simp only [I_zero, if_true]
    cases n with
    | zero => simp only [Int.natCast_zero, if_true]; exact Ev.now _
    | succ n => simp only [if_neg (show ¬ ((n + 1 : Nat) : Int) = 0 by omega), pow_zero_succ]; exact Ev.now _
  · have hw : wrap64 (Int.tmod (n : Int) 255 + 255) = ((n + 255 : Nat) : Int) := by
      rw [Int.tmod_eq_emod_of_nonneg (by omega), w64 (by omega) (by omega)]
      omega
    have hm : Int.tmod ((n + 255 : Nat) : Int) 255 = (n : Int) := by
      rw [Int.tmod_eq_emod_of_nonneg (by omega)]
      omega
    simp only [if_neg (show ¬ I a = 0 from fun h' => h (I_eq_zero.1 h')), hw, hm]
    have := rPowL_ev a n 0 (by omega)
    rw [Nat.zero_add] at this
    exact this
theorem ev_snoc (x a : F) : ∀ l : List F, ev (l ++ [a]) x = ev l x ^^^ mul a (pow x l.length)
  | [] => by simp [ev, pow, zero_mul, mul_one]
  | b :: l => by
    rw [List.cons_append, ev, ev_snoc x a l, ev, List.length_cons, pow, mul_add_left, mul_assoc, BitVec.xor_assoc, BitVec.xor_comm _ b, ← BitVec.xor_assoc]
theorem rEval_l0_ev (p : List F) (x : F) (hB : p.length ≤ 250) (d : Nat) : ∀ i, i + d = p.length → Ev (fun k => kinkeepref06_Eval.l0 k (IL p) (I x) (I (ev (p.take i) x)) (p.length : Int) (i : Int)) (I (ev p x)) := by
  induction d with
  | zero =>
    intro i hi
    refine Ev.step (fun k => kinkeepref06_Eval.l0.eq_2 _ _ _ _ _ _) ?_
    simp only [if_neg (show ¬ ((i : Int) < (p.length : Int)) by omega)]
    rw [show i = p.length by omega, List.take_length]
    exact Ev.now _
  | succ d ih =>
    intro i hi
    have hp : i < p.length := by omega
    refine Ev.step (fun k => kinkeepref06_Eval.l0.eq_2 _ _ _ _ _ _) ?_
    simp only [if_pos (show (i : Int) < (p.length : Int) by omega), if_pos (show (0 : Int) ≤ (i : Int) by omega), IL_length, rd_IL hp, w64 (show -1000000000000000 ≤ (i : Int) + 1 by omega) (by omega)]
    refine Ev.bind (rPowS_ev x i (by omega)) (Ev.bind (rMul_ev _ _) ?_)
    simp only [xor_I]
    have := ih (i + 1) (by omega)
    rw [List.take_succ_eq_append_getElem hp, ev_snoc, List.length_take, Nat.min_eq_left (by omega)] at this
    exact this
theorem rEval_ev (p : List F) (x : F) (hB : p.length ≤ 250) : Ev (fun k => kinkeepref06_Eval.f k (IL p) (I x)) (I (ev p x)) := by
  unfold kinkeepref06_Eval.f
  simp only [IL_length]
  exact rEval_l0_ev p x hB p.length 0 (by omega)
end Go.Proofs.Ytjoiiclahcghbaa.PG
