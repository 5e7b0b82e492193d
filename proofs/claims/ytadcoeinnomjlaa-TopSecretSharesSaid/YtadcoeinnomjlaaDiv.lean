/- Division with remainder, roots. -/
import Derived.Test.YtadcoeinnomjlaaPol
namespace Go.Proofs.Ytadcoeinnomjlaa.Gf
def ups : Nat → Ser → Ser
  | 0, f => f
  | n + 1, f => up (ups n f)
theorem ups_at (n : Nat) (f : Ser) (i : Nat) : ups n f i = if i < n then 0#8 else f (i - n) := by
  induction n generalizing i with
  | zero => simp [ups]
  | succ n ih =>
    cases i with
    | zero => simp [ups, up]
    | succ i => simp only [ups, up, ih, Nat.add_sub_add_right, Nat.add_lt_add_iff_right]
theorem cv_ups (n : Nat) (f g : Ser) : cv (ups n f) g = ups n (cv f g) := by
  induction n with
  | zero => rfl
  | succ n ih => rw [ups, cv_up, ih]; rfl
theorem up_ad (f g : Ser) : up (ad f g) = ad (up f) (up g) := by
  funext i; cases i <;> simp [up, ad]
theorem ups_ad (n : Nat) (f g : Ser) : ups n (ad f g) = ad (ups n f) (ups n g) := by
  induction n with
  | zero => rfl
  | succ n ih => rw [ups, ih, up_ad]; rfl
theorem up_sm (c : F) (f : Ser) : up (sm c f) = sm c (up f) := by
  funext i; cases i <;> simp [up, sm, mul_zero]
theorem up_ze : up ze = ze := by funext i; cases i <;> rfl
theorem up_ups (n : Nat) (f : Ser) : ups n (up f) = up (ups n f) := by
  induction n with
  | zero => rfl
  | succ n ih => rw [ups, ih]; rfl
theorem co_cons (a : F) (p : List F) : co (a :: p) = ad (sm a on) (up (co p)) := by
  have := cv_cons a p on
  rwa [cv_on, cv_on] at this
/-- p + c x^n q, no longer than p. -/
def addToL (p q : List F) (c : F) (n : Nat) : List F := tab p.length (ad (co p) (ups n (sm c (co q))))
theorem addToL_length (p q : List F) (c : F) (n : Nat) : (addToL p q c n).length = p.length := tab_length ..
theorem co_addToL {p q : List F} (c : F) {n : Nat} (h : n + q.length ≤ p.length) : co (addToL p q c n) = ad (co p) (ups n (sm c (co q))) := by
  refine co_tab ((co_bel p).ad fun i hi => ?_)
  rw [ups_at, if_neg (by omega)]
  exact ((co_bel q).sm c) _ (by omega)
def divGo (q : List F) (iv : F) : Nat → List F → List F → List F × List F
  | 0, rest, quo => (quo, rest)
  | i + 1, rest, quo => divGo q iv i (addToL rest q (mul (co rest (i + (q.length - 1))) iv) i) (mul (co rest (i + (q.length - 1))) iv :: quo)
/-- The program's divide: q is trimmed and not empty. -/
def divP (p q : List F) : List F × List F :=
  ((divGo q (inv (co q (q.length - 1))) ((trim p).length - (q.length - 1)) (trim p) []).1, trim (divGo q (inv (co q (q.length - 1))) ((trim p).length - (q.length - 1)) (trim p) []).2)
theorem divGo_ok (q : List F) (hq : Nrm q) (h0 : q ≠ []) (P : Ser) (i : Nat) : ∀ rest quo, i + q.length ≤ rest.length + 1 → P = ad (cv (ups i (co quo)) (co q)) (co rest) → Bel (i + (q.length - 1)) (co rest) →
    P = ad (cv (co (divGo q (inv (co q (q.length - 1))) i rest quo).1) (co q)) (co (divGo q (inv (co q (q.length - 1))) i rest quo).2) ∧ Bel (q.length - 1) (co (divGo q (inv (co q (q.length - 1))) i rest quo).2) ∧
    (divGo q (inv (co q (q.length - 1))) i rest quo).1.length = i + quo.length ∧ (divGo q (inv (co q (q.length - 1))) i rest quo).2.length = rest.length := by
  have hl : 0 < q.length := List.length_pos_iff.2 h0
  induction i with
  | zero => intro rest quo hlen hP hb; exact ⟨hP, by simpa [divGo] using hb, by simp [divGo], rfl⟩
  | succ i ih =>
    intro rest quo hlen hP hb
    simp only [divGo]
    have hc := co_addToL (p := rest) (q := q) (mul (co rest (i + (q.length - 1))) (inv (co q (q.length - 1)))) (n := i) (by omega)
    obtain ⟨h1, h2, h3, h4⟩ := ih (addToL rest q (mul (co rest (i + (q.length - 1))) (inv (co q (q.length - 1)))) i) (mul (co rest (i + (q.length - 1))) (inv (co q (q.length - 1))) :: quo) (by rw [addToL_length]; omega) (by
      rw [hc, hP, co_cons, ups_ad, cv_ad_left, up_ups, cv_ups i (sm _ on), cv_sm_left, on_cv]
      show ad (cv (up (ups i (co quo))) (co q)) (co rest) = _
      rw [ad_comm (ups i _) (cv _ _), ad_assoc, ad_comm (co rest), ← ad_assoc (ups i _), ad_self, ze_ad]) (by
      intro j hj
      rw [hc]
      show co rest j ^^^ ups i (sm _ (co q)) j = 0#8
      rw [ups_at, if_neg (by omega)]
      rcases Nat.lt_or_ge (i + (q.length - 1)) j with hlt | hge
      · rw [hb j (by omega)]
        show 0#8 ^^^ mul _ (co q (j - i)) = 0#8
        rw [co_bel q (j - i) (by omega), mul_zero]; rfl
      · obtain rfl : j = i + (q.length - 1) := by omega
        show co rest _ ^^^ mul _ (co q (i + (q.length - 1) - i)) = 0#8
        rw [show i + (q.length - 1) - i = q.length - 1 from by omega, mul_assoc, mul_comm (inv _), inv_ok _ (hq.lead h0), mul_one]
        exact BitVec.xor_self)
    refine ⟨h1, h2, ?_, ?_⟩
    · rw [h3]; simp; omega
    · rw [h4, addToL_length]
/-- Quotient and remainder. -/
structure IsDiv (p q d r : List F) : Prop where
  eq : co p = ad (cv (co d) (co q)) (co r)
  bel : Bel (q.length - 1) (co r)
theorem divP_ok (p : List F) {q : List F} (hq : Nrm q) (h0 : q ≠ []) : IsDiv p q (divP p q).1 (divP p q).2 ∧ Nrm (divP p q).1 ∧ Nrm (divP p q).2 ∧ (divP p q).1.length = (trim p).length - (q.length - 1) := by
  have hl : 0 < q.length := List.length_pos_iff.2 h0
  by_cases hlen : (trim p).length < q.length
  · have hz : (trim p).length - (q.length - 1) = 0 := by omega
    have hd : divP p q = ([], trim p) := by unfold divP; rw [hz, divGo, trim_trim]
    rw [hd]
    refine ⟨⟨?_, fun i hi => ?_⟩, rfl, nrm_trim p, hz.symm⟩
    · rw [co_nil, ze_cv, ze_ad, co_trim]
    · exact co_bel (trim p) i (by omega)
  · obtain ⟨h1, h2, h3, h4⟩ := divGo_ok q hq h0 (co p) ((trim p).length - (q.length - 1)) (trim p) [] (by omega)
      (by rw [co_trim, show ups ((trim p).length - (q.length - 1)) (co []) = ze from by funext i; rw [ups_at, co_nil]; simp [ze], ze_cv, ze_ad])
      (fun i hi => co_bel (trim p) i (by omega))
    have hI : IsDiv p q (divP p q).1 (divP p q).2 := ⟨by unfold divP; simp only [co_trim]; exact h1, by unfold divP; simp only [co_trim]; exact h2⟩
    have hL : (divP p q).1.length = (trim p).length - (q.length - 1) := by unfold divP; simpa using h3
    refine ⟨hI, ?_, nrm_trim _, hL⟩
    refine nrm_of_lead (fun hne => ?_)
    intro hz
    have hp0 : trim p ≠ [] := fun h => by rw [h, List.length_nil] at hlen; omega
    have := (nrm_trim p).lead hp0
    rw [co_trim, hI.eq] at this
    apply this
    show cv _ _ _ ^^^ _ = _
    have hne2 := List.length_pos_iff.2 hne
    rw [hI.bel ((trim p).length - 1) (by omega), show (trim p).length - 1 = (divP p q).1.length + q.length - 2 from by omega, (cv_lead hne h0).2, hz, zero_mul]
    rfl
theorem div_unique {d d' q r r' : Ser} {n m l : Nat} (hd : Bel n d) (hd' : Bel m d') (hq : Bel (l + 1) q) (hl : q l ≠ 0#8) (hr : Bel l r) (hr' : Bel l r') (h : ad (cv d q) r = ad (cv d' q) r') : d = d' ∧ r = r' := by
  have key : cv (ad d d') q = ad r r' := by
    rw [cv_ad_left]
    have : ad (ad (cv d q) r) (ad (cv d' q) r') = ze := by rw [h, ad_self]
    rw [ad4] at this
    exact ad_eq_ze this
  have hb : Bel (max n m) (ad d d') := (hd.mono (by omega)).ad (hd'.mono (by omega))
  have hz : ad d d' = ze := by
    by_cases hz : ad d d' = ze
    · exact hz
    · obtain ⟨e, _, he, hE⟩ := top_of hb hz
      have h2 := (hE.cv hq).2
      rw [key, (hr.ad hr') _ (by omega)] at h2
      rcases mul_eq_zero h2.symm with h3 | h3
      · exact absurd h3 he
      · exact absurd h3 hl
  refine ⟨ad_eq_ze hz, ad_eq_ze ?_⟩
  rw [← key, hz, ze_cv]
theorem IsDiv.unique {p q d r d' r' : List F} (hq : Nrm q) (h0 : q ≠ []) (h : IsDiv p q d r) (h' : IsDiv p q d' r') : co d = co d' ∧ co r = co r' := by
  have hl : 0 < q.length := List.length_pos_iff.2 h0
  exact div_unique (co_bel d) (co_bel d') (l := q.length - 1) (by rw [Nat.sub_add_cancel hl]; exact co_bel q) (hq.lead h0) h.bel h'.bel (by rw [← h.eq, ← h'.eq])
theorem divP_eq {p q d r : List F} (hq : Nrm q) (h0 : q ≠ []) (h : IsDiv p q d r) (hd : Nrm d) (hr : Nrm r) : divP p q = (d, r) := by
  obtain ⟨h1, h2, h3, _⟩ := divP_ok p hq h0
  obtain ⟨a, b⟩ := h1.unique hq h0 h
  exact Prod.ext (h2.ext hd a) (h3.ext hr b)
theorem divP_len (p : List F) {q : List F} (hq : Nrm q) (h0 : q ≠ []) : (divP p q).2.length < q.length := by
  have hl : 0 < q.length := List.length_pos_iff.2 h0
  obtain ⟨h1, _, h3, _⟩ := divP_ok p hq h0
  have := trim_len_le h1.bel
  rw [h3] at this
  omega
/-- The remainder is zero just where q divides p. -/
theorem divP_zero {p q : List F} (hq : Nrm q) (h0 : q ≠ []) : (divP p q).2 = [] ↔ ∃ d, co p = cv (co d) (co q) := by
  constructor
  · intro h
    obtain ⟨h1, _⟩ := divP_ok p hq h0
    refine ⟨(divP p q).1, ?_⟩
    have := h1.eq
    rw [h, co_nil, ad_ze] at this
    exact this
  · rintro ⟨d, h⟩
    rw [divP_eq hq h0 (d := trim d) (r := []) ⟨by rw [co_nil, ad_ze, co_trim, h], fun i _ => by rw [co_nil]; rfl⟩ (nrm_trim d) rfl]

/-! Roots -/
theorem nrm_root (x : F) : Nrm [x, 1#8] := nrm_of_lead (fun _ => by simp [co])
theorem ev_root (x y : F) : ev [x, 1#8] y = y ^^^ x := by simp [ev, zero_mul, one_mul]
theorem xor_ne {x y : F} (h : x ≠ y) : x ^^^ y ≠ 0#8 := fun h' => h (BitVec.xor_eq_zero_iff.1 h')
theorem root_iff (p : List F) (x : F) : (divP p [x, 1#8]).2 = [] ↔ ev p x = 0#8 := by
  obtain ⟨h1, _, h3, _⟩ := divP_ok p (nrm_root x) (by simp)
  have hlen := divP_len p (nrm_root x) (by simp)
  have hev : ev p x = ev (divP p [x, 1#8]).2 x := by
    rw [ev_co (q := addL (mulL (divP p [x, 1#8]).1 [x, 1#8]) (divP p [x, 1#8]).2) (by rw [co_addL, co_mulL]; exact h1.eq), ev_addL, ev_mulL, ev_root]
    simp [mul_zero]
  rw [hev]
  constructor
  · intro h; rw [h]; rfl
  · intro h
    match hr : (divP p [x, 1#8]).2 with
    | [] => rfl
    | [a] =>
      rw [hr] at h h3
      have : a = 0#8 := by simpa [ev, zero_mul] using h
      have h4 := h3.lead (by simp)
      exact absurd (by simpa [co] using this) h4
    | a :: b :: l => rw [hr] at hlen; simp only [List.length_cons, List.length_nil] at hlen; omega
theorem root_factor {p : List F} {x : F} (h : ev p x = 0#8) : co p = cv (co (divP p [x, 1#8]).1) (co [x, 1#8]) := by
  have h2 := (root_iff p x).2 h
  have h1 := (divP_ok p (nrm_root x) (by simp)).1.eq
  rw [h2, co_nil, ad_ze] at h1
  exact h1
/-- Not more roots than the degree. -/
theorem zero_of_roots {xs : List F} : ∀ {p : List F}, xs.Nodup → Bel xs.length (co p) → (∀ x ∈ xs, ev p x = 0#8) → co p = ze := by
  induction xs with
  | nil => intro p _ hb _; exact hb.zero
  | cons x xs ih =>
    intro p hn hb h
    have hf := root_factor (h x (by simp))
    obtain ⟨hx, hn'⟩ := List.nodup_cons.1 hn
    have hd : co (divP p [x, 1#8]).1 = ze := by
      refine ih hn' ?_ (fun y hy => ?_)
      · have hL := (divP_ok p (nrm_root x) (by simp)).2.2.2
        have := trim_len_le hb
        refine (co_bel _).mono ?_
        rw [hL]
        simp at this ⊢
        omega
      · have h1 := ev_of_cv hf y
        rw [h y (by simp [hy]), ev_root] at h1
        rcases mul_eq_zero h1.symm with h2 | h2
        · exact h2
        · exact absurd h2 (xor_ne (fun he => hx (he ▸ hy)))
    rw [hf, hd, ze_cv]
theorem eq_of_values {xs : List F} {p q : List F} (hn : xs.Nodup) (hp : Bel xs.length (co p)) (hq : Bel xs.length (co q)) (h : ∀ x ∈ xs, ev p x = ev q x) : co p = co q := by
  have := zero_of_roots (p := addL p q) hn (by rw [co_addL]; exact hp.ad hq) (fun x hx => by rw [ev_addL, h x hx]; exact BitVec.xor_self)
  rw [co_addL] at this
  exact ad_eq_ze this
end Go.Proofs.Ytadcoeinnomjlaa.Gf
