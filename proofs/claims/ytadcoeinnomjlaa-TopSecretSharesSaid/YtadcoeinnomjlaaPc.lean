/- What the printed functions of polynomial come to: degrees, sums, products, values, interpolation. -/
import Derived.Test.YtadcoeinnomjlaaPGx3
import Derived.Test.YtadcoeinnomjlaaPGx16
import Derived.Test.YtadcoeinnomjlaaPGx17
import Derived.Test.YtadcoeinnomjlaaPGx21
import Derived.Test.YtadcoeinnomjlaaIt
import Derived.Test.YtadcoeinnomjlaaSg
namespace Go.Proofs.Ytadcoeinnomjlaa.PG
open Go.RowKit Go.Proofs.YtadcoeinnomjlaaW.PrintWords Go.Proofs.Ytadcoeinnomjlaa.Gf
theorem w64 {x : Int} (h0 : -1000000000000000 ≤ x) (h1 : x ≤ 1000000000000000) : wrap64 x = x := by unfold wrap64; omega
theorem IL_take (p : List F) (n : Nat) : (IL p).take n = IL (p.take n) := by simp [IL, List.map_take]
theorem IL_set (p : List F) (i : Nat) (a : F) : (IL p).set i (I a) = IL (p.set i a) := by simp [IL, List.map_set]
theorem IL_replicate (n : Nat) : List.replicate n (0 : Int) = IL (List.replicate n 0#8) := by simp [IL, I]
theorem IL_snoc (p : List F) (a : F) : IL p ++ [I a] = IL (p ++ [a]) := by simp [IL]
theorem IL_inj {p q : List F} : IL p = IL q ↔ p = q := by
  constructor
  · intro h
    have := congrArg (List.map Fi) h
    simpa [IL, Function.comp_def, Fi_I] using this
  · intro h; rw [h]
theorem rd_co {p : List F} (i : Nat) : rd (IL p) (i : Int) = I (co p i) := by
  unfold rd IL co
  rw [Int.toNat_natCast, List.getD_eq_getElem?_getD, List.getD_eq_getElem?_getD, List.getElem?_map]
  cases p[i]? <;> rfl
theorem co_set {p : List F} {i : Nat} (h : i < p.length) (a : F) (t : Nat) : co (p.set i a) t = if t = i then a else co p t := by
  unfold co
  rw [List.getD_eq_getElem?_getD, List.getElem?_set]
  by_cases ht : i = t
  · subst ht
    simp [h]
  · rw [if_neg ht, if_neg (fun e => ht e.symm), List.getD_eq_getElem?_getD]
theorem co_take {p : List F} (n t : Nat) : co (p.take n) t = if t < n then co p t else 0#8 := by
  unfold co
  rw [List.getD_eq_getElem?_getD, List.getElem?_take, List.getD_eq_getElem?_getD]
  split <;> rfl
theorem co_take_succ (p : List F) (n : Nat) : co (p.take (n + 1)) = ad (co (p.take n)) (ups n (sm (co p n) on)) := by
  funext t
  show _ = co (p.take n) t ^^^ ups n (sm (co p n) on) t
  rw [co_take, co_take, ups_at]
  rcases Nat.lt_trichotomy t n with h | h | h
  · rw [if_pos (by omega), if_pos h, if_pos h, BitVec.xor_zero]
  · subst h
    simp [sm, on, mul_one]
  · rw [if_neg (by omega), if_neg (by omega), if_neg (by omega)]
    simp [sm, on, show ¬ t - n = 0 by omega, mul_zero]
theorem co_replicate (n : Nat) : co (List.replicate n 0#8) = ze := by
  funext i
  unfold co ze
  rw [List.getD_eq_getElem?_getD, List.getElem?_replicate]
  split <;> rfl
theorem Degree_l0_ev (p : List F) (hB : p.length ≤ 1000000) (i : Nat) : i ≤ p.length → Ev (fun k => polynomial_Degree.l0 k (IL p) ((i : Int) - 1)) (((trim (p.take i)).length : Int) - 1) := by
  induction i with
  | zero =>
    intro _
    refine Ev.step (fun k => polynomial_Degree.l0.eq_2 _ _ _) ?_
    simp only [if_neg (show ¬ (((0 : Nat) : Int) - 1 ≥ 0) by decide), List.take_zero]
    exact Ev.now _
  | succ i ih =>
    intro hi
    have hi' : i < p.length := by omega
    refine Ev.step (fun k => polynomial_Degree.l0.eq_2 _ _ _) ?_
    rw [List.take_succ_eq_append_getElem hi']
    simp only [show (((i + 1 : Nat) : Int) - 1) = (i : Int) by omega, IL_length, if_pos (show (i : Int) ≥ 0 by omega), if_pos (show (i : Int) < (p.length : Int) by omega), rd_IL hi', I_eq_zero, w64 (show -1000000000000000 ≤ (i : Int) - 1 by omega) (by omega)]
    by_cases h0 : p[i] = 0#8
    · simp only [if_pos h0]
      rw [h0, trim_snoc_zero]
      exact ih (by omega)
    · simp only [if_neg h0]
      rw [trim_snoc h0, List.length_append, List.length_take, List.length_singleton, Nat.min_eq_left (by omega)]
      rw [show (((i + 1 : Nat) : Int) - 1) = (i : Int) by omega]
      exact Ev.now _
theorem Degree_ev (p : List F) (hB : p.length ≤ 1000000) : Ev (fun k => polynomial_Degree.f k (IL p)) (((trim p).length : Int) - 1) := by
  unfold polynomial_Degree.f
  simp only [IL_length, w64 (show -1000000000000000 ≤ (p.length : Int) - 1 by omega) (by omega)]
  have := Degree_l0_ev p hB p.length (Nat.le_refl _)
  rw [List.take_length] at this
  exact this
theorem Trim_ev (p : List F) (hB : p.length ≤ 1000000) : Ev (fun k => polynomial_Trim.f k (IL p)) (IL (trim p)) := by
  unfold polynomial_Trim.f
  have hl := trim_len p
  refine Ev.bind (Degree_ev p hB) ?_
  simp only [w64 (show -1000000000000000 ≤ (((trim p).length : Int) - 1) + 1 by omega) (by omega), if_pos (show (0 : Int) ≤ (((trim p).length : Int) - 1) + 1 by omega), show ((((trim p).length : Int) - 1) + 1).toNat = (trim p).length by omega, if_pos (show (trim p).length ≤ 281474976710656 by omega), List.length_replicate, IL_length]
  rw [IL_take, trim_take, List.drop_of_length_le (by simp; exact hl), List.append_nil]
  exact Ev.now _
theorem xorInto_IL {m l : List F} (h : m.length ≤ l.length) (j : Nat) : j ≤ m.length → xorInto (IL m) j (IL l) = IL (tab l.length (ad (co l) (co (m.take j)))) := by
  induction j with
  | zero => intro _; rw [xorInto, List.take_zero, co_nil, ad_ze, tab_co]
  | succ j ih =>
    intro hj
    rw [xorInto, ih (by omega), rd_co, rd_co, xor_I, IL_set, IL_inj]
    have hlt : j < (tab l.length (ad (co l) (co (m.take j)))).length := by rw [tab_length]; omega
    apply ext_co
    · rw [List.length_set, tab_length, tab_length]
    · funext t
      rw [co_set hlt]
      rcases Nat.lt_or_ge t l.length with ht | ht
      · by_cases e : t = j
        · subst e
          rw [if_pos rfl]
          simp only [tab_at _ ht]
          show (co l t ^^^ co (m.take t) t) ^^^ co m t = co l t ^^^ co (m.take (t + 1)) t
          rw [co_take, co_take, if_neg (by omega), if_pos (by omega), BitVec.xor_zero]
        · rw [if_neg e]
          simp only [tab_at _ ht]
          show co l t ^^^ co (m.take j) t = co l t ^^^ co (m.take (j + 1)) t
          rw [co_take, co_take]
          by_cases h1 : t < j
          · rw [if_pos h1, if_pos (by omega)]
          · rw [if_neg h1, if_neg (by omega)]
      · rw [if_neg (by omega), co_bel _ t (by rw [tab_length]; exact ht), co_bel _ t (by rw [tab_length]; exact ht)]
theorem Add_ev (p q : List F) (hp : p.length ≤ 1000000) (hq : q.length ≤ 1000000) : Ev (fun k => polynomial_Add.f k (IL p) (IL q)) (IL (addP p q)) := by
  unfold polynomial_Add.f
  simp only [IL_length]
  by_cases h : p.length < q.length
  · simp only [if_pos h, if_pos (show q.length ≤ 281474976710656 by omega), xorInto_IL (show p.length ≤ q.length by omega) p.length (Nat.le_refl _), List.take_length]
    have := Trim_ev (tab q.length (ad (co q) (co p))) (by rw [tab_length]; exact hq)
    rw [trim_of_co (q := addL p q) (by rw [co_tab ((co_bel q).ad ((co_bel p).mono (by omega))), co_addL, ad_comm])] at this
    exact this
  · simp only [if_neg h, if_pos (show p.length ≤ 281474976710656 by omega), xorInto_IL (show q.length ≤ p.length by omega) q.length (Nat.le_refl _), List.take_length]
    have := Trim_ev (tab p.length (ad (co p) (co q))) (by rw [tab_length]; exact hp)
    rw [trim_of_co (q := addL p q) (by rw [co_tab ((co_bel p).ad ((co_bel q).mono (by omega))), co_addL])] at this
    exact this
theorem addTo_l0_ev {p q : List F} (c : F) (n : Nat) (h : n + q.length ≤ p.length) (hB : p.length ≤ 1000000) (d : Nat) : ∀ j, j + d = q.length →
    Ev (fun k => polynomial_addTo.l0 k (IL (tab p.length (ad (co p) (ups n (sm c (co (q.take j))))))) (I c) (n : Int) (IL q) (q.length : Int) (j : Int)) (IL (addToL p q c n)) := by
  induction d with
  | zero =>
    intro j hj
    refine Ev.step (fun k => polynomial_addTo.l0.eq_2 _ _ _ _ _ _ _) ?_
    simp only [if_neg (show ¬ ((j : Int) < (q.length : Int)) by omega)]
    rw [show j = q.length by omega, List.take_length]
    exact Ev.now _
  | succ d ih =>
    intro j hj
    have hq : j < q.length := by omega
    have hlt : n + j < (tab p.length (ad (co p) (ups n (sm c (co (q.take j)))))).length := by rw [tab_length]; omega
    refine Ev.step (fun k => polynomial_addTo.l0.eq_2 _ _ _ _ _ _ _) ?_
    have hw : wrap64 ((n : Int) + (j : Int)) = ((n + j : Nat) : Int) := by rw [w64 (by omega) (by omega)]; omega
    simp only [hw, IL_length, tab_length, if_pos (show (j : Int) < (q.length : Int) by omega), if_pos (show (0 : Int) ≤ (j : Int) by omega), if_pos (show (0 : Int) ≤ ((n + j : Nat) : Int) by omega), if_pos (show ((n + j : Nat) : Int) < (p.length : Int) by omega), rd_co, Int.toNat_natCast, wrap_up hq (show q.length ≤ 140737488355328 by omega)]
    refine Ev.bind (Mul_ev _ _) ?_
    simp only [Add_I, Option.bind_some, IL_set]
    have := ih (j + 1) (by omega)
    rw [show (tab p.length (ad (co p) (ups n (sm c (co (q.take j)))))).set (n + j) (co (tab p.length (ad (co p) (ups n (sm c (co (q.take j)))))) (n + j) ^^^ mul c (co q j)) = tab p.length (ad (co p) (ups n (sm c (co (q.take (j + 1)))))) from ?_]
    · exact this
    · apply ext_co
      · rw [List.length_set, tab_length, tab_length]
      · funext t
        rw [co_set hlt]
        rcases Nat.lt_or_ge t p.length with ht | ht
        · by_cases e : t = n + j
          · subst e
            rw [if_pos rfl]
            simp only [tab_at _ ht]
            show (co p (n + j) ^^^ ups n (sm c (co (q.take j))) (n + j)) ^^^ mul c (co q j) = co p (n + j) ^^^ ups n (sm c (co (q.take (j + 1)))) (n + j)
            rw [ups_at, ups_at, if_neg (by omega), if_neg (by omega), show n + j - n = j by omega]
            show (co p (n + j) ^^^ mul c (co (q.take j) j)) ^^^ mul c (co q j) = co p (n + j) ^^^ mul c (co (q.take (j + 1)) j)
            rw [co_take, co_take, if_neg (by omega), if_pos (by omega), mul_zero, BitVec.xor_zero]
          · rw [if_neg e]
            simp only [tab_at _ ht]
            show co p t ^^^ ups n (sm c (co (q.take j))) t = co p t ^^^ ups n (sm c (co (q.take (j + 1)))) t
            rw [ups_at, ups_at]
            by_cases h1 : t < n
            · rw [if_pos h1, if_pos h1]
            · rw [if_neg h1, if_neg h1]
              show _ ^^^ mul c (co (q.take j) (t - n)) = _ ^^^ mul c (co (q.take (j + 1)) (t - n))
              rw [co_take, co_take]
              by_cases h2 : t - n < j
              · rw [if_pos h2, if_pos (by omega)]
              · rw [if_neg h2, if_neg (by omega)]
        · rw [if_neg (by omega), co_bel _ t (by rw [tab_length]; exact ht), co_bel _ t (by rw [tab_length]; exact ht)]
theorem sm_ups_nil (n : Nat) (c : F) : ups n (sm c (co [])) = ze := by
  funext t
  rw [ups_at, co_nil, sm_ze]
  split <;> rfl
theorem addTo_ev {p q : List F} (c : F) (n : Nat) (h : n + q.length ≤ p.length) (hB : p.length ≤ 1000000) : Ev (fun k => polynomial_addTo.f k (IL p) (IL q) (I c) (n : Int)) (IL (addToL p q c n)) := by
  unfold polynomial_addTo.f
  simp only [IL_length]
  have := addTo_l0_ev c n h hB q.length 0 (by omega)
  rw [List.take_zero, sm_ups_nil, ad_ze, tab_co] at this
  exact this
theorem cv_take_bel (p q : List F) (i : Nat) (hi : i ≤ p.length) : Bel (p.length + q.length - 1) (cv (co (p.take i)) (co q)) := by
  refine (Bel.cv' (co_bel (p.take i)) (co_bel q)).mono ?_
  rw [List.length_take]
  omega
theorem product_l0_ev {p q : List F} (hq : q ≠ []) (hB : p.length + q.length ≤ 1000000) (d : Nat) : ∀ i, i + d = p.length →
    Ev (fun k => polynomial_product.l0 k (IL q) (IL (tab (p.length + q.length - 1) (cv (co (p.take i)) (co q)))) (IL p) (p.length : Int) (i : Int)) (IL (tab (p.length + q.length - 1) (cv (co p) (co q)))) := by
  have hq0 : 0 < q.length := List.length_pos_iff.2 hq
  induction d with
  | zero =>
    intro i hi
    refine Ev.step (fun k => polynomial_product.l0.eq_2 _ _ _ _ _ _) ?_
    simp only [if_neg (show ¬ ((i : Int) < (p.length : Int)) by omega)]
    rw [show i = p.length by omega, List.take_length]
    exact Ev.now _
  | succ d ih =>
    intro i hi
    have hp : i < p.length := by omega
    refine Ev.step (fun k => polynomial_product.l0.eq_2 _ _ _ _ _ _) ?_
    simp only [IL_length, if_pos (show (i : Int) < (p.length : Int) by omega), if_pos (show (0 : Int) ≤ (i : Int) by omega), rd_co, wrap_up hp (show p.length ≤ 140737488355328 by omega)]
    refine Ev.bind (addTo_ev (co p i) i (by rw [tab_length]; omega) (by rw [tab_length]; omega)) ?_
    have := ih (i + 1) (by omega)
    unfold addToL
    rw [tab_length, co_tab (cv_take_bel p q i (by omega))]
    rw [co_take_succ, cv_ad_left, cv_ups, cv_sm_left, on_cv] at this
    exact this
theorem product_ev (p q : List F) (hB : p.length + q.length ≤ 1000000) : Ev (fun k => polynomial_product.f k (IL p) (IL q)) (IL (prodL p q)) := by
  unfold polynomial_product.f
  simp only [IL_length]
  by_cases hp : p = []
  · subst hp
    simp only [List.length_nil, Int.natCast_zero, if_true]
    refine Ev.step (fun k => polynomial_product.j0.eq_2 _ _ _ _) ?_
    simp only [if_true]
    exact Ev.now _
  · have hp0 : 0 < p.length := List.length_pos_iff.2 hp
    simp only [if_neg (show ¬ (p.length : Int) = 0 by omega)]
    refine Ev.step (fun k => polynomial_product.j0.eq_2 _ _ _ _) ?_
    by_cases hq : q = []
    · subst hq
      simp only [List.length_nil, Int.natCast_zero, beq_self_eq_true, if_true]
      rw [prodL, if_pos (.inr rfl)]
      exact Ev.now _
    · have hq0 : 0 < q.length := List.length_pos_iff.2 hq
      have hb : (((q.length : Nat) : Int) == 0) = false := beq_eq_false_iff_ne.2 (by omega)
      have hw1 : wrap64 ((p.length : Int) + (q.length : Int)) = ((p.length + q.length : Nat) : Int) := by rw [w64 (by omega) (by omega)]; omega
      have hw2 : wrap64 (((p.length + q.length : Nat) : Int) - 1) = ((p.length + q.length - 1 : Nat) : Int) := by rw [w64 (by omega) (by omega)]; omega
      simp only [hb, if_neg (show ¬ (false = true) by decide), IL_length, hw1, hw2, if_pos (show (0 : Int) ≤ ((p.length + q.length - 1 : Nat) : Int) by omega), Int.toNat_natCast, if_pos (show p.length + q.length - 1 ≤ 281474976710656 by omega)]
      have := product_l0_ev hq hB p.length 0 (by omega)
      rw [List.take_zero, co_nil, ze_cv, show tab (p.length + q.length - 1) ze = List.replicate (p.length + q.length - 1) 0#8 from ext_co (by rw [tab_length, List.length_replicate]) (by rw [co_tab (f := ze) (fun i _ => rfl), co_replicate]), ← IL_replicate] at this
      rw [prodL, if_neg (by simp [hp, hq])]
      exact this
theorem Eval_l0_ev (p : List F) (x : F) (hB : p.length ≤ 1000000) (i : Nat) : i ≤ p.length → Ev (fun k => polynomial_Eval.l0 k (IL p) (I x) (I (ev (p.drop i) x)) ((i : Int) - 1)) (I (ev p x)) := by
  induction i with
  | zero =>
    intro _
    refine Ev.step (fun k => polynomial_Eval.l0.eq_2 _ _ _ _ _) ?_
    simp only [if_neg (show ¬ (((0 : Nat) : Int) - 1 ≥ 0) by decide), List.drop_zero]
    exact Ev.now _
  | succ i ih =>
    intro hi
    have hi' : i < p.length := by omega
    refine Ev.step (fun k => polynomial_Eval.l0.eq_2 _ _ _ _ _) ?_
    simp only [show (((i + 1 : Nat) : Int) - 1) = (i : Int) by omega, IL_length, if_pos (show (i : Int) ≥ 0 by omega), if_pos (show (i : Int) < (p.length : Int) by omega), rd_IL hi', w64 (show -1000000000000000 ≤ (i : Int) - 1 by omega) (by omega)]
    refine Ev.bind (Mul_ev _ _) ?_
    simp only [Add_I, Option.bind_some]
    have := ih (by omega)
    rw [List.drop_eq_getElem_cons hi', ev] at this
    exact this
theorem Eval_ev (p : List F) (x : F) (hB : p.length ≤ 1000000) : Ev (fun k => polynomial_Eval.f k (IL p) (I x)) (I (ev p x)) := by
  unfold polynomial_Eval.f
  simp only [IL_length, w64 (show -1000000000000000 ≤ (p.length : Int) - 1 by omega) (by omega)]
  have := Eval_l0_ev p x hB p.length (Nat.le_refl _)
  rw [List.drop_length] at this
  exact this
theorem pScale_I (p : List F) (c : F) (hp : p.length ≤ 281474976710656) : gf256_Scale.f (IL p) (I c) = some (IL (p.map fun x => mul x c)) := by
  unfold gf256_Scale.f
  rw [if_pos ⟨I_range c, fun x hx => by
    obtain ⟨a, _, rfl⟩ := List.mem_map.1 hx
    exact I_range a, by rw [IL_length]; exact hp⟩, Fi_I]
  congr 1
  unfold IL
  rw [List.map_map, List.map_map]
  apply List.map_congr_left
  intro a _
  show I (mul (BitVec.ofNat 8 (I a).toNat) c) = I (mul a c)
  rw [show BitVec.ofNat 8 (I a).toNat = a by unfold I; simp]
theorem root_IL (x : F) : ([I x, 1] : List Int) = IL [x, 1#8] := rfl
theorem among_IL (p : List F) (x : F) (j : Nat) : j ≤ p.length → (among (IL p) (I x) j = true ↔ x ∈ p.take j) := by
  induction j with
  | zero => intro _; simp [among]
  | succ j ih =>
    intro hj
    have hj' : j < p.length := by omega
    rw [among, Bool.or_eq_true, ih (by omega), beq_iff_eq, rd_IL hj', List.take_succ_eq_append_getElem hj', List.mem_append, List.mem_singleton]
    have : (I p[j]).toNat = (I x).toNat ↔ x = p[j] := by
      unfold I
      rw [Int.toNat_natCast, Int.toNat_natCast]
      exact ⟨fun h => (BitVec.eq_of_toNat_eq h).symm, fun h => by rw [h]⟩
    rw [this]
theorem distD_IL (p : List F) (d : Nat) : ∀ j, j + d = p.length → (p.take j).Nodup → (distD (IL p) d j = true ↔ p.Nodup) := by
  induction d with
  | zero => intro j hj h; rw [show j = p.length by omega, List.take_length] at h; simp [distD, h]
  | succ d ih =>
    intro j hj h
    have hj' : j < p.length := by omega
    rw [distD, Bool.and_eq_true, Bool.not_eq_true', rd_IL hj']
    by_cases ha : p[j] ∈ p.take j
    · have h1 := (among_IL p p[j] j (by omega)).2 ha
      rw [h1]
      refine ⟨fun e => by simp at e, fun e => ?_⟩
      have h2 : (p.take (j + 1)).Nodup := e.sublist (List.take_sublist _ _)
      rw [List.take_succ_eq_append_getElem hj', List.nodup_append] at h2
      exact absurd rfl (h2.2.2 _ ha _ (by simp))
    · have h1 : among (IL p) (I p[j]) j = false := by
        rw [← Bool.not_eq_true]
        exact fun e => ha ((among_IL p p[j] j (by omega)).1 e)
      rw [h1, ih (j + 1) (by omega) (by
        rw [List.take_succ_eq_append_getElem hj', List.nodup_append]
        refine ⟨h, by simp, fun a h1 b h2 => ?_⟩
        rw [List.mem_singleton] at h2
        subst h2
        exact fun e => ha (e ▸ h1))]
      simp
theorem dist_IL (p : List F) : distD (IL p) p.length 0 = true ↔ p.Nodup := distD_IL p p.length 0 (by omega) (by simp)
theorem itLoop_ev : ∀ (xs ys out base done : List F), xs.length = ys.length → xs.Nodup → (∀ x ∈ xs, x ∉ done) → Nrm out → Bel done.length (co out) → base.length = done.length + 1 → (∀ z, ev base z = 0#8 ↔ z ∈ done) → done.length + xs.length ≤ 1000 →
    Ev (fun k => itLoop k (IL xs) (IL ys) (IL out) (IL base)) (IL (itGo xs ys out base)) := by
  intro xs
  induction xs with
  | nil => intro ys out base done _ _ _ _ _ _ _ _; exact Ev.now _
  | cons x xs ih =>
    intro ys out base done hl hn hd h1 h2 h3 h4 hB
    match ys, hl with
    | y :: ys, hl =>
      rw [List.length_cons] at hB
      obtain ⟨hx, hn'⟩ := List.nodup_cons.1 hn
      have hbx : ev base x ≠ 0#8 := fun e => hd x (by simp) ((h4 x).1 e)
      have hb0 : base ≠ [] := fun e => by rw [e] at h3; simp at h3
      have hol : out.length ≤ done.length := by
        have := trim_len_le h2
        rwa [h1] at this
      rw [itGo]
      show Ev (fun k => (polynomial_Eval.f k (IL out) (I x)).bind fun e1 => (polynomial_Eval.f k (IL base) (I x)).bind fun e2 => (gf256_Div.f k (Go.bits .xor .u8 (I y) e1) e2).bind fun c => (gf256_Scale.f (IL base) c.1).bind fun sc => (polynomial_Add.f k (IL out) sc).bind fun out1 => (polynomial_product.f k [I x, 1] (IL base)).bind fun base1 => itLoop k (IL xs) (IL ys) out1 base1) _
      refine Ev.bind (Eval_ev out x (by omega)) (Ev.bind (Eval_ev base x (by omega)) ?_)
      simp only [xor_I, root_IL]
      refine Ev.bind (Div_ev hbx) ?_
      simp only [pScale_I base _ (show base.length ≤ 281474976710656 by omega), Option.bind_some]
      refine Ev.bind (Add_ev _ _ (by omega) (by rw [List.length_map]; omega)) (Ev.bind (product_ev _ _ (by simp; omega)) ?_)
      refine ih ys _ _ (x :: done) (by simpa using hl) hn' (fun z hz hz' => by
          rcases List.mem_cons.1 hz' with h | h
          · exact hx (h ▸ hz)
          · exact hd z (by simp [hz]) h) (nrm_addP _ _) (by
          rw [co_addP, map_mul, co_scL, List.length_cons]
          exact (h2.mono (by omega)).ad (Bel.sm _ (h3 ▸ co_bel base))) (by rw [prodL_one_length hb0, h3, List.length_cons]) (fun z => by
          rw [ev_prodL, ev_root, List.mem_cons, ← h4 z]
          constructor
          · intro h
            rcases mul_eq_zero h with h | h
            · exact .inl (BitVec.xor_eq_zero_iff.1 h)
            · exact .inr h
          · rintro (h | h)
            · rw [h, BitVec.xor_self, zero_mul]
            · rw [h, mul_zero]) (by rw [List.length_cons]; omega)
theorem Interpolate_ev {xs ys : List F} (hl : xs.length = ys.length) (hn : xs.Nodup) (hB : xs.length ≤ 1000) : Ev (fun k => polynomial_Interpolate.f k (IL xs) (IL ys)) (IL (itP xs ys), (0 : Int)) := by
  unfold polynomial_Interpolate.f
  simp only [IL_length, if_pos hl, (dist_IL xs).2 hn, if_true]
  have hc : (∀ x ∈ IL xs, 0 ≤ x ∧ x < 256) ∧ xs.length ≤ 140737488355328 := ⟨fun x hx => by
    obtain ⟨a, _, rfl⟩ := List.mem_map.1 hx
    exact I_range a, by omega⟩
  simp only [if_pos hc]
  exact Ev.bind (itLoop_ev xs ys [] [1#8] [] hl hn (by simp) nrm_nil (by rw [co_nil]; exact fun _ _ => rfl) rfl (fun z => by simp [ev_const]) (by simp; omega)) (Ev.now _)
end Go.Proofs.Ytadcoeinnomjlaa.PG
