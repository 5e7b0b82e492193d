/- Interpolation (step by step, and by Lagrange's formula), products of root factors, roots, sums of multiplicities, the derivative's roots. -/
import Derived.Test.YtadcoeinnomjlaaDiv
namespace Go.Proofs.Ytadcoeinnomjlaa.Gf
/-! ## Greatest common divisors, derivatives, multiplicities -/
/-! Divisibility -/
def Dv (a b : List F) : Prop := ∃ d : List F, co b = cv (co d) (co a)
theorem Dv.refl (a : List F) : Dv a a := ⟨[1#8], by
  have : co [1#8] = on := by funext i; cases i <;> simp [co, on]
  rw [this, on_cv]⟩
theorem Dv.trans {a b c : List F} (h : Dv a b) (k : Dv b c) : Dv a c := by
  obtain ⟨d, hd⟩ := h
  obtain ⟨e, he⟩ := k
  exact ⟨mulL e d, by rw [co_mulL, he, hd, cv_assoc]⟩
theorem Dv.nil (a : List F) : Dv a [] := ⟨[], by rw [co_nil, ze_cv]⟩
theorem Dv.add {a b c d : List F} (h : Dv a b) (k : Dv a c) (e : co d = ad (co b) (co c)) : Dv a d := by
  obtain ⟨x, hx⟩ := h
  obtain ⟨y, hy⟩ := k
  exact ⟨addL x y, by rw [co_addL, cv_ad_left, e, hx, hy]⟩
theorem Dv.mul {a b c : List F} (h : Dv a b) (d : List F) (e : co c = cv (co d) (co b)) : Dv a c := by
  obtain ⟨x, hx⟩ := h
  exact ⟨mulL d x, by rw [co_mulL, e, hx, cv_assoc]⟩
theorem Dv.co_left {a a' b : List F} (h : Dv a b) (e : co a = co a') : Dv a' b := by
  obtain ⟨x, hx⟩ := h
  exact ⟨x, by rw [← e, hx]⟩
theorem Dv.co_right {a b b' : List F} (h : Dv a b) (e : co b = co b') : Dv a b' := by
  obtain ⟨x, hx⟩ := h
  exact ⟨x, by rw [← e, hx]⟩
/-! The greatest common divisor -/
def gcdGo : Nat → List F → List F → List F
  | 0, p, _ => p
  | n + 1, p, q => if q = [] then p else gcdGo n q (divP p q).2
def lead (p : List F) : F := co p (p.length - 1)
def monic (p : List F) : List F := p.map fun x => mul x (inv (lead p))
def gcdP (p q : List F) : List F := monic (gcdGo ((trim q).length + 1) (trim p) (trim q))
theorem map_mul (c : F) (p : List F) : (p.map fun x => mul x c) = scL c p := by
  unfold scL
  apply List.map_congr_left
  intro x _
  exact mul_comm x c
theorem co_monic (p : List F) : co (monic p) = sm (inv (lead p)) (co p) := by rw [monic, map_mul, co_scL]
theorem nrm_scL {c : F} (hc : c ≠ 0#8) {p : List F} (hp : Nrm p) : Nrm (scL c p) := by
  refine nrm_of_lead (fun h => ?_)
  have hp0 : p ≠ [] := fun e => h (by rw [e]; rfl)
  rw [co_scL, scL_length]
  intro h0
  rcases mul_eq_zero h0 with h1 | h1
  · exact hc h1
  · exact hp.lead hp0 h1
theorem nrm_monic {p : List F} (hp : Nrm p) : Nrm (monic p) := by
  by_cases h : p = []
  · subst h; rfl
  · rw [monic, map_mul]
    exact nrm_scL (inv_ne (hp.lead h)) hp
theorem monic_length (p : List F) : (monic p).length = p.length := by simp [monic]
theorem lead_monic {p : List F} (hp : Nrm p) (h : p ≠ []) : lead (monic p) = 1#8 := by
  unfold lead
  rw [monic_length, co_monic]
  show mul (inv (lead p)) (co p (p.length - 1)) = 1#8
  rw [mul_comm]
  exact inv_ok _ (hp.lead h)
theorem gcdGo_ok (n : Nat) : ∀ p q : List F, Nrm p → Nrm q → q.length < n →
    Nrm (gcdGo n p q) ∧ Dv (gcdGo n p q) p ∧ Dv (gcdGo n p q) q ∧ (∃ u v : List F, co (gcdGo n p q) = ad (cv (co u) (co p)) (cv (co v) (co q))) ∧ (gcdGo n p q = [] → p = [] ∧ q = []) := by
  induction n with
  | zero => intro p q _ _ h; omega
  | succ n ih =>
    intro p q hp hq hn
    unfold gcdGo
    by_cases h : q = []
    · subst h
      rw [if_pos rfl]
      refine ⟨hp, Dv.refl p, Dv.nil p, ⟨[1#8], [], ?_⟩, fun e => ⟨e, rfl⟩⟩
      have : co [1#8] = on := by funext i; cases i <;> simp [co, on]
      rw [this, on_cv, co_nil, ze_cv, ad_ze]
    · rw [if_neg h]
      obtain ⟨hI, _, hr, _⟩ := divP_ok p hq h
      have hlen := divP_len p hq h
      obtain ⟨h1, h2, h3, ⟨u, v, huv⟩, h5⟩ := ih q (divP p q).2 hq hr (by omega)
      have hpe : co p = ad (co (mulL (divP p q).1 q)) (co (divP p q).2) := by rw [co_mulL]; exact hI.eq
      refine ⟨h1, Dv.add (h2.mul (divP p q).1 (co_mulL _ _)) h3 hpe, h2, ⟨v, addL u (mulL v (divP p q).1), ?_⟩, fun e => ?_⟩
      · have hre : co (divP p q).2 = ad (co p) (cv (co (divP p q).1) (co q)) := by
          rw [hI.eq, ad_comm, ← ad_assoc, ad_comm (cv _ _), ad_assoc]
          rw [ad_left_self]
        rw [huv, hre, cv_ad_right, co_addL, co_mulL, cv_ad_left, cv_assoc, ← ad_assoc, ad_comm (cv (co u) (co q)), ad_assoc]
      · exact absurd (h5 e).1 h
/-- What a greatest common divisor is. -/
structure IsGcd (g p q : List F) : Prop where
  nrm : Nrm g
  left : Dv g p
  right : Dv g q
  bez : ∃ u v : List F, co g = ad (cv (co u) (co p)) (cv (co v) (co q))
theorem IsGcd.greatest {g p q d : List F} (h : IsGcd g p q) (hp : Dv d p) (hq : Dv d q) : Dv d g := by
  obtain ⟨u, v, huv⟩ := h.bez
  exact Dv.add (hp.mul u (co_mulL _ _)) (hq.mul v (co_mulL _ _)) (by rw [huv, co_mulL, co_mulL])
theorem sm_inv {c : F} (hc : c ≠ 0#8) (f : Ser) : sm c (sm (inv c) f) = f := by rw [sm_sm, inv_ok c hc, sm_one]
theorem Dv.monic_left {g p : List F} (hg : Nrm g) (h : Dv g p) : Dv (monic g) p := by
  by_cases h0 : g = []
  · subst h0; exact h
  · obtain ⟨d, hd⟩ := h
    exact ⟨scL (lead g) d, by rw [co_scL, co_monic, cv_sm_left, cv_sm_right, sm_inv (c := lead g) (hg.lead h0), hd]⟩
theorem gcdP_ok (p q : List F) : IsGcd (gcdP p q) p q ∧ (gcdP p q = [] → co p = ze ∧ co q = ze) ∧ (gcdP p q ≠ [] → lead (gcdP p q) = 1#8) := by
  obtain ⟨h1, h2, h3, ⟨u, v, huv⟩, h5⟩ := gcdGo_ok ((trim q).length + 1) (trim p) (trim q) (nrm_trim p) (nrm_trim q) (by omega)
  have he : monic (gcdGo ((trim q).length + 1) (trim p) (trim q)) = gcdP p q := rfl
  rw [← he]
  refine ⟨⟨nrm_monic h1, (h2.co_right (co_trim p)).monic_left h1, (h3.co_right (co_trim q)).monic_left h1, ⟨scL (inv (lead (gcdGo ((trim q).length + 1) (trim p) (trim q)))) u, scL (inv (lead (gcdGo ((trim q).length + 1) (trim p) (trim q)))) v, ?_⟩⟩, fun e => ?_, fun e => ?_⟩
  · rw [co_monic, huv, sm_ad, co_scL, co_scL, cv_sm_left, cv_sm_left, co_trim, co_trim]
  · have h0 : gcdGo ((trim q).length + 1) (trim p) (trim q) = [] := by
      have := congrArg List.length e
      rw [monic_length] at this
      exact List.eq_nil_of_length_eq_zero this
    exact ⟨trim_eq_nil.1 (h5 h0).1, trim_eq_nil.1 (h5 h0).2⟩
  · have h0 : gcdGo ((trim q).length + 1) (trim p) (trim q) ≠ [] := fun h => e (by rw [h]; rfl)
    exact lead_monic h1 h0
/-- A divisor of a polynomial other than zero is not longer; of the same length: a multiple by an element. -/
theorem Dv.length {a b : List F} (ha : Nrm a) (hb : Nrm b) (hb0 : b ≠ []) (h : Dv a b) : a ≠ [] ∧ a.length ≤ b.length := by
  obtain ⟨d, hd⟩ := h
  have ha0 : a ≠ [] := fun e => by
    rw [e, co_nil, cv_ze] at hd
    exact hb0 (hb.ext nrm_nil (by rw [hd, co_nil]))
  refine ⟨ha0, ?_⟩
  have e : b = prodL (trim d) a := hb.ext (nrm_prodL (nrm_trim d) ha) (by rw [co_prodL, co_trim, hd])
  have hd0 : trim d ≠ [] := fun e2 => hb0 (by rw [e, e2]; rfl)
  have h1 : 0 < (trim d).length := List.length_pos_iff.2 hd0
  rw [e, prodL, if_neg (by simp [hd0, ha0]), tab_length]
  omega
theorem assoc_eq {a b : List F} (ha : Nrm a) (hb : Nrm b) (hb0 : b ≠ []) (h : Dv a b) (k : Dv b a) : ∃ c : F, c ≠ 0#8 ∧ co b = sm c (co a) ∧ a.length = b.length := by
  obtain ⟨ha0, hl⟩ := h.length ha hb hb0
  obtain ⟨_, hl2⟩ := k.length hb ha ha0
  obtain ⟨d, hd⟩ := h
  have e : b = prodL (trim d) a := hb.ext (nrm_prodL (nrm_trim d) ha) (by rw [co_prodL, co_trim, hd])
  have hd0 : trim d ≠ [] := fun e2 => hb0 (by rw [e, e2]; rfl)
  have h1 : 0 < (trim d).length := List.length_pos_iff.2 hd0
  have h2 : 0 < a.length := List.length_pos_iff.2 ha0
  have hlen := congrArg List.length e
  rw [prodL, if_neg (by simp [hd0, ha0]), tab_length] at hlen
  match hm : trim d with
  | [] => exact absurd hm hd0
  | [c] =>
    have hn := nrm_trim d
    rw [hm] at hn
    have hc := hn.lead (by simp)
    refine ⟨c, by simpa [co] using hc, ?_, by omega⟩
    rw [hd, ← co_trim d, hm, cv_cons, co_nil, ze_cv, up_ze, ad_ze]
  | x :: y :: l => rw [hm] at hlen; simp at hlen; omega
theorem monic_unique {a b : List F} (ha : Nrm a) (hb : Nrm b) (h1 : a ≠ [] → lead a = 1#8) (h2 : b ≠ [] → lead b = 1#8) (h : Dv a b) (k : Dv b a) : a = b := by
  by_cases hb0 : b = []
  · subst hb0
    obtain ⟨d, hd⟩ := k
    rw [co_nil, cv_ze] at hd
    exact ha.ext nrm_nil (by rw [hd, co_nil])
  · obtain ⟨c, hc, hco, hl⟩ := assoc_eq ha hb hb0 h k
    have ha0 : a ≠ [] := (h.length ha hb hb0).1
    have hla := h1 ha0
    have hlb := h2 hb0
    unfold lead at hla hlb
    rw [hco, ← hl] at hlb
    change mul c (co a (a.length - 1)) = 1#8 at hlb
    rw [hla, mul_one] at hlb
    refine ha.ext hb ?_
    rw [hco, hlb, sm_one]
theorem gcdP_eq {p q g : List F} (h : IsGcd g p q) (hl : g ≠ [] → lead g = 1#8) : gcdP p q = g := by
  obtain ⟨h1, _, h3⟩ := gcdP_ok p q
  exact monic_unique h1.nrm h.nrm h3 hl (h.greatest h1.left h1.right) (h1.greatest h.left h.right)
theorem gcdP_comm (p q : List F) : gcdP p q = gcdP q p := by
  obtain ⟨h1, _, h3⟩ := gcdP_ok q p
  exact gcdP_eq ⟨h1.nrm, h1.right, h1.left, by obtain ⟨u, v, h⟩ := h1.bez; exact ⟨v, u, by rw [h, ad_comm]⟩⟩ h3
/-! The derivative -/
def dr (f : Ser) : Ser := fun i => if i % 2 = 0 then f (i + 1) else 0#8
def derP (p : List F) : List F := trim (tab p.length (dr (co p)))
theorem dr_bel {n : Nat} {f : Ser} (h : Bel n f) : Bel n (dr f) := fun i hi => by
  unfold dr
  split
  · exact h _ (by omega)
  · rfl
theorem co_derP (p : List F) : co (derP p) = dr (co p) := by rw [derP, co_trim, co_tab (dr_bel (co_bel p))]
theorem dr_ad (f g : Ser) : dr (ad f g) = ad (dr f) (dr g) := by
  funext i
  show (if i % 2 = 0 then f (i + 1) ^^^ g (i + 1) else 0#8) = (if i % 2 = 0 then f (i + 1) else 0#8) ^^^ (if i % 2 = 0 then g (i + 1) else 0#8)
  split
  · rfl
  · rfl
theorem dr_sm (c : F) (f : Ser) : dr (sm c f) = sm c (dr f) := by
  funext i
  show (if i % 2 = 0 then mul c (f (i + 1)) else 0#8) = mul c (if i % 2 = 0 then f (i + 1) else 0#8)
  split
  · rfl
  · rw [mul_zero]
theorem dr_up (f : Ser) : dr (up f) = ad f (up (dr f)) := by
  funext i
  cases i with
  | zero => simp [dr, up, ad]
  | succ i =>
    show (if (i + 1) % 2 = 0 then f (i + 1) else 0#8) = f (i + 1) ^^^ (if i % 2 = 0 then f (i + 1) else 0#8)
    by_cases h : i % 2 = 0
    · rw [if_pos h, if_neg (by omega), BitVec.xor_self]
    · rw [if_neg h, if_pos (by omega), BitVec.xor_zero]
theorem split0 (f : Ser) : f = ad (sm (f 0) on) (up (sh f)) := by
  funext i
  cases i with
  | zero => simp [ad, sm, on, up, mul_one]
  | succ i => simp [ad, sm, on, up, sh, mul_zero]
theorem dr_on : dr on = ze := by
  funext i
  simp [dr, on, ze]
theorem dr_split (f : Ser) : dr f = ad (sh f) (up (dr (sh f))) := by
  conv => lhs; rw [split0 f]
  rw [dr_ad, dr_sm, dr_on, sm_ze, ze_ad, dr_up]
theorem dr_cv (f g : Ser) : dr (cv f g) = ad (cv (dr f) g) (cv f (dr g)) := by
  funext n
  induction n using Nat.strongRecOn generalizing f with
  | _ n ih =>
    have hf : cv f g = ad (sm (f 0) g) (up (cv (sh f) g)) := by
      conv => lhs; rw [split0 f]
      rw [cv_ad_left, cv_sm_left, on_cv, cv_up]
    have h1 : dr (cv f g) = ad (sm (f 0) (dr g)) (ad (cv (sh f) g) (up (dr (cv (sh f) g)))) := by
      rw [hf, dr_ad, dr_sm, dr_up]
    have h2 : up (dr (cv (sh f) g)) n = up (ad (cv (dr (sh f)) g) (cv (sh f) (dr g))) n := by
      cases n with
      | zero => rfl
      | succ n => exact ih n (by omega) (sh f)
    have h3 : cv (dr f) g = ad (cv (sh f) g) (up (cv (dr (sh f)) g)) := by rw [dr_split f, cv_ad_left, cv_up]
    have h4 : cv f (dr g) = ad (sm (f 0) (dr g)) (up (cv (sh f) (dr g))) := by
      conv => lhs; rw [split0 f]
      rw [cv_ad_left, cv_sm_left, on_cv, cv_up]
    rw [h1, h3, h4]
    show sm (f 0) (dr g) n ^^^ (cv (sh f) g n ^^^ up (dr (cv (sh f) g)) n) = (cv (sh f) g n ^^^ up (cv (dr (sh f)) g) n) ^^^ (sm (f 0) (dr g) n ^^^ up (cv (sh f) (dr g)) n)
    rw [h2, up_ad]
    show sm (f 0) (dr g) n ^^^ (cv (sh f) g n ^^^ (up (cv (dr (sh f)) g) n ^^^ up (cv (sh f) (dr g)) n)) = _
    ac_rfl
/-! Multiplicities -/
def multGo : Nat → List F → F → Nat
  | 0, _, _ => 0
  | n + 1, p, x => if ev p x = 0#8 then multGo n (divP p [x, 1#8]).1 x + 1 else 0
def multP (p : List F) (x : F) : Nat := multGo (trim p).length (trim p) x
theorem quo_root {p : List F} {x : F} (hp : Nrm p) (h0 : p ≠ []) (h : ev p x = 0#8) : (divP p [x, 1#8]).1 ≠ [] ∧ Nrm (divP p [x, 1#8]).1 ∧ (divP p [x, 1#8]).1.length = p.length - 1 := by
  obtain ⟨_, h2, _, h4⟩ := divP_ok p (nrm_root x) (by simp)
  rw [hp] at h4
  refine ⟨fun e => h0 (hp.ext nrm_nil ?_), h2, by simpa using h4⟩
  rw [root_factor h, e, co_nil, ze_cv]
theorem multGo_fuel (n : Nat) : ∀ (m : Nat) (p : List F) (x : F), Nrm p → p ≠ [] → p.length ≤ n → p.length ≤ m → multGo n p x = multGo m p x := by
  induction n with
  | zero => intro m p x _ h0 h; exact absurd (List.eq_nil_of_length_eq_zero (by omega)) h0
  | succ n ih =>
    intro m p x hp h0 hn hm
    cases m with
    | zero => exact absurd (List.eq_nil_of_length_eq_zero (by omega)) h0
    | succ m =>
      unfold multGo
      by_cases h : ev p x = 0#8
      · obtain ⟨q0, q1, q2⟩ := quo_root hp h0 h
        rw [if_pos h, if_pos h, ih m _ x q1 q0 (by omega) (by omega)]
      · rw [if_neg h, if_neg h]
theorem multP_step {p : List F} (hp : Nrm p) (h0 : p ≠ []) (x : F) : multP p x = if ev p x = 0#8 then multP (divP p [x, 1#8]).1 x + 1 else 0 := by
  have hl : 0 < p.length := List.length_pos_iff.2 h0
  unfold multP
  rw [hp, show p.length = (p.length - 1) + 1 by omega, multGo]
  by_cases h : ev p x = 0#8
  · obtain ⟨q0, q1, q2⟩ := quo_root hp h0 h
    rw [if_pos h, if_pos h, q1, q2]
  · rw [if_neg h, if_neg h]
theorem divP_root_mul {q p : List F} {x : F} (hq : Nrm q) (h : co p = cv (co q) (co [x, 1#8])) : divP p [x, 1#8] = (q, []) :=
  divP_eq (nrm_root x) (by simp) ⟨by rw [co_nil, ad_ze, h], fun i _ => by rw [co_nil]; rfl⟩ hq rfl
/-- The multiplicity at s of (x + r) q, s another element than r, is that of q. -/
theorem multP_other (n : Nat) : ∀ (p q : List F) (r s : F), r ≠ s → Nrm p → Nrm q → q ≠ [] → q.length ≤ n → co p = cv (co q) (co [r, 1#8]) → multP p s = multP q s := by
  induction n with
  | zero => intro p q r s _ _ _ h0 h _; exact absurd (List.eq_nil_of_length_eq_zero (by omega)) h0
  | succ n ih =>
    intro p q r s hrs hp hq h0 hn he
    have hp0 : p ≠ [] := fun e => by
      rw [e, co_nil] at he
      rcases cv_eq_ze (co_bel q) (co_bel [r, 1#8]) he.symm with h | h
      · exact h0 (hq.ext nrm_nil (by rw [h, co_nil]))
      · have := congrFun h 1; simp [co, ze] at this
    have hv : ev p s = mul (ev q s) (s ^^^ r) := by rw [ev_of_cv he, ev_root]
    have hne : s ^^^ r ≠ 0#8 := xor_ne (fun e => hrs e.symm)
    rw [multP_step hp hp0, multP_step hq h0]
    by_cases h : ev q s = 0#8
    · have hps : ev p s = 0#8 := by rw [hv, h, zero_mul]
      rw [if_pos h, if_pos hps]
      obtain ⟨a0, a1, a2⟩ := quo_root hp hp0 hps
      obtain ⟨b0, b1, b2⟩ := quo_root hq h0 h
      have hqf := root_factor h
      have hpf : co p = cv (co (mulP (divP q [s, 1#8]).1 [r, 1#8])) (co [s, 1#8]) := by
        rw [he, hqf, co_mulP, cv_assoc, cv_assoc, cv_comm (co [s, 1#8])]
      have hd := divP_root_mul (nrm_mulP _ _) hpf
      rw [ih (divP p [s, 1#8]).1 (divP q [s, 1#8]).1 r s hrs a1 b1 b0 (by have := List.length_pos_iff.2 h0; omega) (by rw [hd]; exact co_mulP _ _)]
    · have hps : ev p s ≠ 0#8 := fun e => by
        rw [hv] at e
        rcases mul_eq_zero e with h1 | h1
        · exact h h1
        · exact hne h1
      rw [if_neg h, if_neg hps]
theorem co_one : co [1#8] = on := by funext i; cases i <;> simp [co, on]
theorem nrm_one : Nrm [1#8] := nrm_of_lead (fun _ => by simp [co])
theorem co_const (c : F) : co [c] = sm c on := by
  funext i
  cases i with
  | zero => simp [co, sm, on, mul_one]
  | succ i => simp [co, sm, on, mul_zero]
theorem co_root (x : F) : co [x, 1#8] = ad (sm x on) (up on) := by rw [co_cons, co_one]
theorem ev_prodL (p q : List F) (x : F) : ev (prodL p q) x = mul (ev p x) (ev q x) := ev_of_cv (co_prodL p q) x
theorem ev_mulP (p q : List F) (x : F) : ev (mulP p q) x = mul (ev p x) (ev q x) := ev_of_cv (co_mulP p q) x
theorem ev_addP (p q : List F) (x : F) : ev (addP p q) x = ev p x ^^^ ev q x := ev_of_ad (co_addP p q) x
theorem ev_const (c x : F) : ev [c] x = c := by simp [ev, zero_mul]
theorem ev_map_mul (c : F) (p : List F) (x : F) : ev (p.map fun b => mul b c) x = mul c (ev p x) := by rw [map_mul, ev_scL]
theorem prodL_one_length {x : F} {b : List F} (hb : b ≠ []) : (prodL [x, 1#8] b).length = b.length + 1 := by
  have := List.length_pos_iff.2 hb
  rw [prodL, if_neg (by simp [hb]), tab_length, List.length_cons, List.length_singleton]
  omega
/-! Step by step, as the program does it -/
def itGo : List F → List F → List F → List F → List F
  | x :: xs, y :: ys, out, base => itGo xs ys (addP out (base.map fun b => mul b (mul (y ^^^ ev out x) (inv (ev base x))))) (prodL [x, 1#8] base)
  | _, _, out, _ => out
def itP (xs ys : List F) : List F := itGo xs ys [] [1#8]
theorem itGo_ok : ∀ (xs ys out base done : List F), xs.length = ys.length → xs.Nodup → (∀ x ∈ xs, x ∉ done) → Nrm out → Bel done.length (co out) → base.length = done.length + 1 → (∀ z, ev base z = 0#8 ↔ z ∈ done) →
    Nrm (itGo xs ys out base) ∧ Bel (done.length + xs.length) (co (itGo xs ys out base)) ∧ (∀ d ∈ done, ev (itGo xs ys out base) d = ev out d) ∧ (∀ (i : Nat) (h : i < xs.length), ev (itGo xs ys out base) xs[i] = co ys i) := by
  intro xs
  induction xs with
  | nil =>
    intro ys out base done _ _ _ h1 h2 _ _
    exact ⟨h1, h2, fun _ _ => rfl, fun i h => by simp at h⟩
  | cons x xs ih =>
    intro ys out base done hl hn hd h1 h2 h3 h4
    match ys, hl with
    | y :: ys, hl =>
      rw [itGo]
      obtain ⟨hx, hn'⟩ := List.nodup_cons.1 hn
      have hbx : ev base x ≠ 0#8 := fun e => hd x (by simp) ((h4 x).1 e)
      have hb0 : base ≠ [] := fun e => by rw [e] at h3; simp at h3
      have hv : ∀ z, ev (addP out (base.map fun b => mul b (mul (y ^^^ ev out x) (inv (ev base x))))) z = ev out z ^^^ mul (mul (y ^^^ ev out x) (inv (ev base x))) (ev base z) := fun z => by rw [ev_addP, ev_map_mul]
      obtain ⟨k1, k2, k3, k4⟩ := ih ys (addP out (base.map fun b => mul b (mul (y ^^^ ev out x) (inv (ev base x))))) (prodL [x, 1#8] base) (x :: done) (by simpa using hl) hn' (fun z hz hz' => by
          rcases List.mem_cons.1 hz' with h | h
          · exact hx (h ▸ hz)
          · exact hd z (by simp [hz]) h) (nrm_addP _ _) (by
          rw [co_addP, map_mul, co_scL, List.length_cons]
          exact (h2.mono (by omega)).ad (Bel.sm _ (h3 ▸ co_bel base))) (by rw [prodL_one_length hb0, h3, List.length_cons]) (fun z => by
          rw [ev_prodL, ev_root, List.mem_cons, ← h4 z]
          constructor
          · intro h
            rcases mul_eq_zero h with h | h
            · exact .inl (BitVec.xor_eq_zero_iff.1 h)
            · exact .inr h
          · rintro (h | h)
            · rw [h, BitVec.xor_self, zero_mul]
            · rw [h, mul_zero])
      refine ⟨k1, by simpa [Nat.add_comm, Nat.add_left_comm, Nat.add_assoc] using k2, fun d hdd => ?_, fun i hi => ?_⟩
      · rw [k3 d (by simp [hdd]), hv, (h4 d).2 hdd, mul_zero, BitVec.xor_zero]
      · cases i with
        | zero =>
          rw [List.getElem_cons_zero, k3 x (by simp), hv, mul_assoc, mul_comm (inv _), inv_ok _ hbx, mul_one, co_cons_zero]
          rw [BitVec.xor_comm y, ← BitVec.xor_assoc, BitVec.xor_self, BitVec.zero_xor]
        | succ i => rw [List.getElem_cons_succ, co_cons_succ]; exact k4 i (by simpa using hi)
theorem itP_ok {xs ys : List F} (hl : xs.length = ys.length) (hn : xs.Nodup) : Nrm (itP xs ys) ∧ Bel xs.length (co (itP xs ys)) ∧ (∀ (i : Nat) (h : i < xs.length), ev (itP xs ys) xs[i] = co ys i) := by
  obtain ⟨h1, h2, _, h4⟩ := itGo_ok xs ys [] [1#8] [] hl hn (by simp) nrm_nil (by rw [co_nil]; exact fun _ _ => rfl) rfl (fun z => by simp [ev_const])
  rw [List.length_nil, Nat.zero_add] at h2
  exact ⟨h1, h2, h4⟩
theorem itP_len {xs ys : List F} (hl : xs.length = ys.length) (hn : xs.Nodup) : (itP xs ys).length ≤ xs.length := by
  obtain ⟨h1, h2, _⟩ := itP_ok hl hn
  have := trim_len_le h2
  rwa [h1] at this
/-- Whatever has these values and no more coefficients than there are places is it. -/
theorem itP_eq {xs ys p : List F} (hl : xs.length = ys.length) (hn : xs.Nodup) (hp : Nrm p) (hb : Bel xs.length (co p)) (hv : ∀ (i : Nat) (h : i < xs.length), ev p xs[i] = co ys i) : itP xs ys = p := by
  obtain ⟨h1, h2, h3⟩ := itP_ok hl hn
  refine h1.ext hp (eq_of_values hn h2 hb (fun x hx => ?_))
  obtain ⟨i, hi, rfl⟩ := List.getElem_of_mem hx
  rw [h3 i hi, hv i hi]
/-! Lagrange's formula, as the reference does it -/
def basGo (xs : List F) (i : Nat) : Nat → Nat → List F → List F
  | 0, _, b => b
  | d + 1, j, b => basGo xs i d (j + 1) (if j = i then b else mulP (mulP b [co xs j, 1#8]) [inv (co xs i ^^^ co xs j)])
def lagGo (xs ys : List F) : Nat → Nat → List F → List F
  | 0, _, out => out
  | d + 1, i, out => lagGo xs ys d (i + 1) (addP out (mulP (basGo xs i xs.length 0 [1#8]) [co ys i]))
theorem basGo_len (xs : List F) (i : Nat) (d : Nat) : ∀ (j n : Nat) (b : List F), b.length ≤ n → (basGo xs i d j b).length ≤ n + d - (if j ≤ i ∧ i < j + d then 1 else 0) := by
  induction d with
  | zero => intro j n b h; rw [basGo, if_neg (by omega)]; omega
  | succ d ih =>
    intro j n b h
    rw [basGo]
    by_cases hj : j = i
    · subst hj
      rw [if_pos rfl, if_pos (by omega)]
      have := ih (j + 1) n b h
      rw [if_neg (by omega)] at this
      omega
    · rw [if_neg hj]
      have hlen : (mulP (mulP b [co xs j, 1#8]) [inv (co xs i ^^^ co xs j)]).length ≤ n + 1 := by
        have := trim_len_le (p := mulP (mulP b [co xs j, 1#8]) [inv (co xs i ^^^ co xs j)]) (n := n + 1) (by
          rw [co_mulP, co_mulP, co_const, cv_sm_right, cv_on]
          exact Bel.sm _ ((Bel.cv' (co_bel b) (co_bel [co xs j, 1#8])).mono (by simp; omega)))
        rwa [nrm_mulP] at this
      have := ih (j + 1) (n + 1) _ hlen
      by_cases hi : j ≤ i ∧ i < j + (d + 1)
      · rw [if_pos hi]
        rw [if_pos (by omega)] at this
        omega
      · rw [if_neg hi]
        rw [if_neg (by omega)] at this
        omega
theorem basGo_at (xs : List F) (i : Nat) (d : Nat) : ∀ (j : Nat) (b : List F), (∀ k, j ≤ k → k < j + d → k ≠ i → co xs i ≠ co xs k) → ev (basGo xs i d j b) (co xs i) = ev b (co xs i) := by
  induction d with
  | zero => intro j b _; rfl
  | succ d ih =>
    intro j b h
    rw [basGo, ih (j + 1) _ (fun k h1 h2 h3 => h k (by omega) (by omega) h3)]
    by_cases hj : j = i
    · rw [if_pos hj]
    · rw [if_neg hj, ev_mulP, ev_mulP, ev_root, ev_const, mul_assoc, inv_ok _ (xor_ne (h j (by omega) (by omega) hj)), mul_one]
theorem basGo_zero (xs : List F) (i : Nat) (d : Nat) : ∀ (j : Nat) (b : List F) (m : Nat), m ≠ i → (j ≤ m ∧ m < j + d ∨ ev b (co xs m) = 0#8) → ev (basGo xs i d j b) (co xs m) = 0#8 := by
  induction d with
  | zero => intro j b m _ h; rcases h with h | h
            · omega
            · exact h
  | succ d ih =>
    intro j b m hm h
    rw [basGo]
    refine ih (j + 1) _ m hm ?_
    by_cases hmj : m = j
    · refine .inr ?_
      subst hmj
      rw [if_neg hm, ev_mulP, ev_mulP, ev_root, BitVec.xor_self, mul_zero, zero_mul]
    · rcases h with h | h
      · exact .inl (by omega)
      · refine .inr ?_
        split
        · exact h
        · rw [ev_mulP, ev_mulP, h, zero_mul, zero_mul]
theorem lagGo_ok {xs ys : List F} (hn : ∀ i k, i < xs.length → k < xs.length → k ≠ i → co xs i ≠ co xs k) (d : Nat) : ∀ (i : Nat) (out : List F), i + d = xs.length → Nrm out → out.length ≤ xs.length →
    Nrm (lagGo xs ys d i out) ∧ (lagGo xs ys d i out).length ≤ xs.length ∧ (∀ m, m < xs.length → ev (lagGo xs ys d i out) (co xs m) = ev out (co xs m) ^^^ (if i ≤ m then co ys m else 0#8)) := by
  induction d with
  | zero =>
    intro i out h h1 h2
    refine ⟨h1, h2, fun m hm => ?_⟩
    rw [if_neg (by omega), BitVec.xor_zero]; rfl
  | succ d ih =>
    intro i out h h1 h2
    rw [lagGo]
    have hb := basGo_len xs i xs.length 0 1 [1#8] (by simp)
    rw [if_pos (by omega)] at hb
    obtain ⟨k1, k2, k3⟩ := ih (i + 1) (addP out (mulP (basGo xs i xs.length 0 [1#8]) [co ys i])) (by omega) (nrm_addP _ _) (by
      have := trim_len_le (p := addP out (mulP (basGo xs i xs.length 0 [1#8]) [co ys i])) (n := xs.length) (by
        rw [co_addP, co_mulP, co_const, cv_sm_right, cv_on]
        exact ((co_bel out).mono h2).ad (Bel.sm _ ((co_bel _).mono (by omega))))
      rwa [nrm_addP] at this)
    refine ⟨k1, k2, fun m hm => ?_⟩
    rw [k3 m hm, ev_addP, ev_mulP, ev_const]
    by_cases hmi : m = i
    · subst hmi
      rw [basGo_at xs m xs.length 0 [1#8] (fun k _ h3 h4 => hn m k hm (by omega) h4), ev_const, one_mul, if_neg (by omega), if_pos (by omega), BitVec.xor_zero]
    · rw [basGo_zero xs i xs.length 0 [1#8] m hmi (.inl (by omega)), zero_mul, BitVec.xor_zero]
      by_cases h5 : i ≤ m
      · rw [if_pos h5, if_pos (by omega)]
      · rw [if_neg h5, if_neg (by omega)]
theorem nodup_co {xs : List F} (hn : xs.Nodup) : ∀ i k, i < xs.length → k < xs.length → k ≠ i → co xs i ≠ co xs k := by
  intro i k hi hk hne h
  rw [co_at hi, co_at hk] at h
  exact hne ((List.getElem_inj hn).1 h).symm
theorem lag_eq {xs ys : List F} (hl : xs.length = ys.length) (hn : xs.Nodup) : lagGo xs ys xs.length 0 [] = itP xs ys := by
  obtain ⟨h1, h2, h3⟩ := lagGo_ok (ys := ys) (nodup_co hn) xs.length 0 [] (by omega) nrm_nil (by simp)
  refine (itP_eq hl hn h1 ((co_bel _).mono h2) (fun i hi => ?_)).symm
  have := h3 i hi
  rw [if_pos (by omega), co_at hi] at this
  rw [this]
  simp [ev]
/-! Products of root factors -/
def frL : List F → List F → List F
  | [], acc => acc
  | x :: l, acc => frL l (prodL [x, 1#8] acc)
theorem frL_ok : ∀ (l acc : List F), Nrm acc → acc ≠ [] → Nrm (frL l acc) ∧ (frL l acc).length = acc.length + l.length ∧ (∀ z, ev (frL l acc) z = 0#8 ↔ z ∈ l ∨ ev acc z = 0#8) := by
  intro l
  induction l with
  | nil => intro acc h _; exact ⟨h, rfl, fun z => by simp [frL]⟩
  | cons x l ih =>
    intro acc h h0
    have hlen := prodL_one_length (x := x) h0
    obtain ⟨k1, k2, k3⟩ := ih (prodL [x, 1#8] acc) (nrm_prodL (nrm_root x) h) (fun e => by rw [e] at hlen; simp at hlen)
    refine ⟨k1, by rw [frL, k2, hlen, List.length_cons]; omega, fun z => ?_⟩
    rw [frL, k3, ev_prodL, ev_root, List.mem_cons]
    constructor
    · rintro (h | h)
      · exact .inl (.inr h)
      · rcases mul_eq_zero h with h | h
        · exact .inl (.inl (BitVec.xor_eq_zero_iff.1 h))
        · exact .inr h
    · rintro ((h | h) | h)
      · exact .inr (by rw [h, BitVec.xor_self, zero_mul])
      · exact .inl h
      · exact .inr (by rw [h, mul_zero])
theorem mulP_root {acc : List F} (h : Nrm acc) (x : F) : mulP acc [x, 1#8] = prodL [x, 1#8] acc :=
  (nrm_mulP _ _).ext (nrm_prodL (nrm_root x) h) (by rw [co_mulP, co_prodL, cv_comm])
/-! Roots, and the sum of their multiplicities -/
def rootsGo (p : List F) : Nat → Nat → List F
  | 0, _ => []
  | d + 1, i => if ev p (BitVec.ofNat 8 i) = 0#8 then BitVec.ofNat 8 i :: rootsGo p d (i + 1) else rootsGo p d (i + 1)
def rootsP (p : List F) : List F := rootsGo p 256 0
theorem rootsGo_mem (p : List F) (d : Nat) : ∀ i x, i + d ≤ 256 → x ∈ rootsGo p d i → i ≤ x.toNat := by
  induction d with
  | zero => intro i x _ h; simp [rootsGo] at h
  | succ d ih =>
    intro i x hi h
    rw [rootsGo] at h
    split at h
    · rcases List.mem_cons.1 h with h | h
      · rw [h, BitVec.toNat_ofNat]; omega
      · have := ih (i + 1) x (by omega) h; omega
    · have := ih (i + 1) x (by omega) h; omega
theorem rootsGo_nodup (p : List F) (d : Nat) : ∀ i, i + d ≤ 256 → (rootsGo p d i).Nodup := by
  induction d with
  | zero => intro i _; simp [rootsGo]
  | succ d ih =>
    intro i hi
    rw [rootsGo]
    split
    · refine List.nodup_cons.2 ⟨fun h => ?_, ih _ (by omega)⟩
      have := rootsGo_mem p d (i + 1) _ (by omega) h
      rw [BitVec.toNat_ofNat] at this
      omega
    · exact ih _ (by omega)
theorem rootsGo_len (p : List F) (d : Nat) : ∀ i, (rootsGo p d i).length ≤ d := by
  induction d with
  | zero => intro i; simp [rootsGo]
  | succ d ih =>
    intro i
    have := ih (i + 1)
    rw [rootsGo]
    split
    · simp; omega
    · omega
theorem multP_trim (p : List F) (x : F) : multP (trim p) x = multP p x := by rw [multP, trim_trim, multP]
/-- All factors x + r taken out. -/
theorem strip (r : F) (n : Nat) : ∀ p : List F, p.length ≤ n → Nrm p → p ≠ [] → ∃ q : List F, Nrm q ∧ q ≠ [] ∧ q.length + multP p r = p.length ∧ ∀ s, r ≠ s → multP p s = multP q s := by
  induction n with
  | zero => intro p h _ h0; exact absurd (List.eq_nil_of_length_eq_zero (by omega)) h0
  | succ n ih =>
    intro p hl hp h0
    have h1 := List.length_pos_iff.2 h0
    by_cases h : ev p r = 0#8
    · obtain ⟨q0, q1, q2⟩ := quo_root hp h0 h
      obtain ⟨q, k1, k2, k3, k4⟩ := ih _ (by omega) q1 q0
      refine ⟨q, k1, k2, ?_, fun s hs => ?_⟩
      · rw [multP_step hp h0, if_pos h]
        omega
      · rw [multP_other _ p (divP p [r, 1#8]).1 r s hs hp q1 q0 (Nat.le_refl _) (root_factor h), k4 s hs]
    · exact ⟨p, hp, h0, by rw [multP_step hp h0, if_neg h, Nat.add_zero], fun _ _ => rfl⟩
def sumM (p : List F) : List F → Nat
  | [] => 0
  | r :: l => multP p r + sumM p l
theorem sumM_congr {p q : List F} : ∀ l : List F, (∀ s ∈ l, multP p s = multP q s) → sumM p l = sumM q l
  | [], _ => rfl
  | r :: l, h => by rw [sumM, sumM, h r (by simp), sumM_congr l (fun s hs => h s (by simp [hs]))]
theorem sumM_le : ∀ (l : List F) {p : List F}, l.Nodup → Nrm p → p ≠ [] → sumM p l + 1 ≤ p.length
  | [], p, _, _, h0 => by rw [sumM]; have := List.length_pos_iff.2 h0; omega
  | r :: l, p, hn, hp, h0 => by
    obtain ⟨hr, hn'⟩ := List.nodup_cons.1 hn
    obtain ⟨q, k1, k2, k3, k4⟩ := strip r p.length p (Nat.le_refl _) hp h0
    have := sumM_le l hn' k1 k2
    rw [sumM, sumM_congr l (fun s hs => k4 s (fun e => hr (e ▸ hs)))]
    omega
/-- A root is one of the derivative exactly if it is a multiple one. -/
theorem der_root {p : List F} {x : F} (hp : Nrm p) (h0 : p ≠ []) (h : ev p x = 0#8) : ev (derP p) x = 0#8 ↔ 1 < multP p x := by
  obtain ⟨q0, q1, q2⟩ := quo_root hp h0 h
  have hd : co (derP p) = ad (cv (co (derP (divP p [x, 1#8]).1)) (co [x, 1#8])) (co (divP p [x, 1#8]).1) := by
    rw [co_derP, root_factor h, dr_cv, co_derP]
    have : dr (co [x, 1#8]) = on := by
      funext i
      cases i with
      | zero => simp [dr, co, on]
      | succ i => simp [dr, co, on]
    rw [this, cv_on]
  have hv : ev (derP p) x = ev (divP p [x, 1#8]).1 x := by
    rw [ev_co (q := addL (mulL (derP (divP p [x, 1#8]).1) [x, 1#8]) (divP p [x, 1#8]).1) (by rw [co_addL, co_mulL]; exact hd), ev_addL, ev_mulL, ev_root, BitVec.xor_self, mul_zero, BitVec.zero_xor]
  rw [hv, multP_step hp h0, if_pos h, multP_step q1 q0]
  constructor
  · intro e; rw [if_pos e]; omega
  · intro e
    by_cases e2 : ev (divP p [x, 1#8]).1 x = 0#8
    · exact e2
    · rw [if_neg e2] at e; omega
theorem multP_pos {p : List F} {x : F} (hp : Nrm p) (h0 : p ≠ []) : 0 < multP p x ↔ ev p x = 0#8 := by
  rw [multP_step hp h0]
  by_cases h : ev p x = 0#8
  · rw [if_pos h]; exact ⟨fun _ => h, fun _ => by omega⟩
  · rw [if_neg h]; exact ⟨fun e => by omega, fun e => absurd e h⟩
end Go.Proofs.Ytadcoeinnomjlaa.Gf
