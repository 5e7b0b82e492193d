/- Polynomials as lists of coefficients. -/
import Derived.Test.YtadcoeinnomjlaaGf
namespace Go.Proofs.Ytadcoeinnomjlaa.Gf
/-! ## Series -/
/-! Series: functions Nat → F, with the product by convolution. -/
abbrev Ser := Nat → F
def sh (f : Ser) : Ser := fun i => f (i + 1)
def cv : Ser → Ser → Nat → F
  | f, g, 0 => mul (f 0) (g 0)
  | f, g, n + 1 => mul (f 0) (g (n + 1)) ^^^ cv (sh f) g n
def ad (f g : Ser) : Ser := fun i => f i ^^^ g i
def sm (c : F) (f : Ser) : Ser := fun i => mul c (f i)
def ze : Ser := fun _ => 0#8
def on : Ser := fun i => if i = 0 then 1#8 else 0#8
def up (f : Ser) : Ser := fun i => match i with | 0 => 0#8 | i + 1 => f i

theorem cv_ad_left (f f' g : Ser) : cv (ad f f') g = ad (cv f g) (cv f' g) := by
  funext n
  show cv (ad f f') g n = cv f g n ^^^ cv f' g n
  induction n generalizing f f' with
  | zero => simp [cv, ad, mul_add_left]
  | succ n ih =>
    have hs : sh (ad f f') = ad (sh f) (sh f') := rfl
    simp only [cv, hs, ih]
    simp only [ad, mul_add_left]
    rw [xor4]
theorem cv_ad_right (f g g' : Ser) : cv f (ad g g') = ad (cv f g) (cv f g') := by
  funext n
  show cv f (ad g g') n = cv f g n ^^^ cv f g' n
  induction n generalizing f with
  | zero => simp [cv, ad, mul_add_right]
  | succ n ih =>
    simp only [cv, ih]
    simp only [ad, mul_add_right]
    rw [xor4]
theorem cv_sm_left (c : F) (f g : Ser) : cv (sm c f) g = sm c (cv f g) := by
  funext n
  show cv (sm c f) g n = mul c (cv f g n)
  induction n generalizing f with
  | zero => simp [cv, sm, mul_assoc]
  | succ n ih =>
    have hs : sh (sm c f) = sm c (sh f) := rfl
    simp only [cv, hs, ih]
    simp only [sm, mul_add_right, mul_assoc]
theorem sh_cv (f g : Ser) : sh (cv f g) = ad (sm (f 0) (sh g)) (cv (sh f) g) := by
  funext n; rfl
theorem cv_assoc (f g h : Ser) : cv (cv f g) h = cv f (cv g h) := by
  funext n
  induction n generalizing f with
  | zero => simp [cv, mul_assoc]
  | succ n ih =>
    show mul (cv f g 0) (h (n + 1)) ^^^ cv (sh (cv f g)) h n = mul (f 0) (cv g h (n + 1)) ^^^ cv (sh f) (cv g h) n
    rw [sh_cv, cv_ad_left, cv_sm_left]
    show mul (mul (f 0) (g 0)) (h (n + 1)) ^^^ (mul (f 0) (cv (sh g) h n) ^^^ cv (cv (sh f) g) h n) = _
    rw [ih]
    show _ = mul (f 0) (mul (g 0) (h (n + 1)) ^^^ cv (sh g) h n) ^^^ cv (sh f) (cv g h) n
    rw [mul_add_right, mul_assoc, BitVec.xor_assoc]
theorem cv_right (f g : Ser) (n : Nat) : cv f g (n + 1) = mul (f (n + 1)) (g 0) ^^^ cv f (sh g) n := by
  induction n generalizing f with
  | zero =>
    show mul (f 0) (g 1) ^^^ mul (f 1) (g 0) = mul (f 1) (g 0) ^^^ mul (f 0) (g 1)
    rw [BitVec.xor_comm]
  | succ n ih =>
    show mul (f 0) (g (n + 2)) ^^^ cv (sh f) g (n + 1) = mul (f (n + 2)) (g 0) ^^^ (mul (f 0) (g (n + 2)) ^^^ cv (sh f) (sh g) n)
    rw [ih]
    show _ ^^^ (mul (f (n + 2)) (g 0) ^^^ _) = _
    ac_rfl
theorem cv_comm (f g : Ser) : cv f g = cv g f := by
  funext n
  induction n generalizing f with
  | zero => simp [cv, mul_comm]
  | succ n ih =>
    rw [cv_right g f]
    show mul (f 0) (g (n + 1)) ^^^ cv (sh f) g n = _
    rw [ih, mul_comm]
theorem cv_sm_right (c : F) (f g : Ser) : cv f (sm c g) = sm c (cv f g) := by
  rw [cv_comm, cv_sm_left, cv_comm]
theorem cv_ze (f : Ser) : cv f ze = ze := by
  funext n
  induction n generalizing f with
  | zero => simp [cv, ze, mul_zero]
  | succ n ih => simp only [cv, ih]; simp [ze, mul_zero]
theorem ze_cv (f : Ser) : cv ze f = ze := by rw [cv_comm, cv_ze]
theorem on_cv (f : Ser) : cv on f = f := by
  funext n
  cases n with
  | zero => simp [cv, on, one_mul]
  | succ n =>
    have hs : sh on = ze := by funext i; simp [sh, on, ze]
    show mul (on 0) (f (n + 1)) ^^^ cv (sh on) f n = _
    rw [hs, ze_cv]
    simp [on, ze, one_mul]
theorem cv_on (f : Ser) : cv f on = f := by rw [cv_comm, on_cv]
theorem ad_comm (f g : Ser) : ad f g = ad g f := by funext i; exact BitVec.xor_comm ..
theorem ad_assoc (f g h : Ser) : ad (ad f g) h = ad f (ad g h) := by funext i; exact BitVec.xor_assoc ..
theorem ad_self (f : Ser) : ad f f = ze := by funext i; simp [ad, ze]
theorem ad_ze (f : Ser) : ad f ze = f := by funext i; simp [ad, ze]
theorem ze_ad (f : Ser) : ad ze f = f := by funext i; simp [ad, ze]
theorem ad_left_self (f g : Ser) : ad f (ad f g) = g := by rw [← ad_assoc, ad_self, ze_ad]
theorem ad4 (a b c d : Ser) : ad (ad a b) (ad c d) = ad (ad a c) (ad b d) := by funext i; exact xor4 ..
theorem cv_up (f g : Ser) : cv (up f) g = up (cv f g) := by
  funext n
  cases n with
  | zero => simp [cv, up, zero_mul]
  | succ n =>
    show mul 0#8 (g (n + 1)) ^^^ cv (sh (up f)) g n = cv f g n
    have : sh (up f) = f := rfl
    rw [this, zero_mul]; simp
theorem sm_one (f : Ser) : sm 1#8 f = f := by funext i; exact one_mul _
theorem sm_sm (a b : F) (f : Ser) : sm a (sm b f) = sm (mul a b) f := by funext i; exact (mul_assoc ..).symm
theorem sm_ad (a : F) (f g : Ser) : sm a (ad f g) = ad (sm a f) (sm a g) := by funext i; exact mul_add_right ..
theorem sm_zero (f : Ser) : sm 0#8 f = ze := by funext i; exact zero_mul _
theorem sm_ze (a : F) : sm a ze = ze := by funext i; exact mul_zero _
theorem ad_eq_ze {f g : Ser} (h : ad f g = ze) : f = g := by
  funext i
  have := congrFun h i
  exact BitVec.xor_eq_zero_iff.1 this

/-! Degrees: below n all is zero from n on. -/
def Bel (n : Nat) (f : Ser) : Prop := ∀ i, n ≤ i → f i = 0#8
theorem Bel.mono {n m : Nat} {f : Ser} (h : Bel n f) (hm : n ≤ m) : Bel m f := fun i hi => h i (by omega)
theorem Bel.ad {n : Nat} {f g : Ser} (h : Bel n f) (k : Bel n g) : Bel n (ad f g) := fun i hi => by simp [Gf.ad, h i hi, k i hi]
theorem Bel.sm {n : Nat} {f : Ser} (c : F) (h : Bel n f) : Bel n (sm c f) := fun i hi => by simp [Gf.sm, h i hi, mul_zero]
theorem Bel.zero {f : Ser} (h : Bel 0 f) : f = ze := by funext i; exact h i (by omega)
theorem Bel.cv {m n : Nat} {f g : Ser} (h : Bel (m + 1) f) (k : Bel (n + 1) g) : Bel (m + n + 1) (cv f g) ∧ Gf.cv f g (m + n) = mul (f m) (g n) := by
  induction m generalizing f with
  | zero =>
    have hs : sh f = ze := by funext i; exact h (i + 1) (by omega)
    have h2 : ∀ i, Gf.cv f g i = mul (f 0) (g i) := fun i => by
      cases i with
      | zero => rfl
      | succ i => show _ ^^^ Gf.cv (sh f) g i = _; rw [hs, ze_cv]; simp [ze]
    exact ⟨fun i hi => by rw [h2, k i (by omega), mul_zero], by rw [h2]; simp⟩
  | succ m ih =>
    have hs : Bel (m + 1) (sh f) := fun i hi => h (i + 1) (by omega)
    obtain ⟨h1, h2⟩ := ih hs
    constructor
    · intro i hi
      obtain ⟨j, rfl⟩ : ∃ j, i = j + 1 := ⟨i - 1, by omega⟩
      show mul (f 0) (g (j + 1)) ^^^ Gf.cv (sh f) g j = _
      rw [k _ (by omega), mul_zero, h1 j (by omega)]; simp
    · rw [show m + 1 + n = (m + n) + 1 from by omega]
      show mul (f 0) (g (m + n + 1)) ^^^ Gf.cv (sh f) g (m + n) = _
      rw [k _ (by omega), mul_zero, h2]; simp [sh]
theorem Bel.cv' {m n : Nat} {f g : Ser} (h : Bel m f) (k : Bel n g) : Bel (m + n - 1) (Gf.cv f g) := by
  rcases m with _ | m
  · rw [h.zero, ze_cv]; intro i _; rfl
  · rcases n with _ | n
    · rw [k.zero, cv_ze]; intro i _; rfl
    · exact (h.cv k).1.mono (by omega)
/-- No zero divisors. -/
theorem top_of {n : Nat} {f : Ser} (h : Bel n f) (hf : f ≠ ze) : ∃ d, d < n ∧ f d ≠ 0#8 ∧ Bel (d + 1) f := by
  induction n with
  | zero => exact absurd h.zero hf
  | succ n ih =>
    by_cases hn : f n = 0#8
    · obtain ⟨d, h1, h2, h3⟩ := ih (fun i hi => by
        rcases Nat.lt_or_ge n i with h' | h'
        · exact h i h'
        · have : i = n := by omega
          rw [this, hn])
      exact ⟨d, by omega, h2, h3⟩
    · exact ⟨n, by omega, hn, h⟩
theorem cv_eq_ze {m n : Nat} {f g : Ser} (hf : Bel m f) (hg : Bel n g) (h : cv f g = ze) : f = ze ∨ g = ze := by
  by_cases h1 : f = ze
  · exact .inl h1
  · by_cases h2 : g = ze
    · exact .inr h2
    · obtain ⟨d, _, hd, hD⟩ := top_of hf h1
      obtain ⟨e, _, he, hE⟩ := top_of hg h2
      have := (hD.cv hE).2
      rw [h] at this
      rcases mul_eq_zero this.symm with h3 | h3
      · exact absurd h3 hd
      · exact absurd h3 he
/-! ## Polynomials -/
/-! Polynomials as lists of coefficients, the constant one first. -/
def co (p : List F) : Ser := fun i => p.getD i 0#8
theorem co_nil : co [] = ze := by funext i; simp [co, ze]
theorem sh_co_cons (a : F) (p : List F) : sh (co (a :: p)) = co p := by funext i; simp [sh, co]
theorem co_cons_zero (a : F) (p : List F) : co (a :: p) 0 = a := by simp [co]
theorem co_cons_succ (a : F) (p : List F) (i : Nat) : co (a :: p) (i + 1) = co p i := by simp [co]
theorem co_bel (p : List F) : Bel p.length (co p) := fun i hi => by simp [co, List.getElem?_eq_none hi]
theorem co_at {p : List F} {i : Nat} (h : i < p.length) : co p i = p[i] := by simp [co, h]
theorem ext_co {p q : List F} (hl : p.length = q.length) (h : co p = co q) : p = q := by
  apply List.ext_getElem hl
  intro i h1 h2
  have := congrFun h i
  rwa [co_at h1, co_at h2] at this
/-- Without zeros at the end. -/
def trim : List F → List F
  | [] => []
  | a :: p => if trim p = [] ∧ a = 0#8 then [] else a :: trim p
theorem co_trim (p : List F) : co (trim p) = co p := by
  induction p with
  | nil => rfl
  | cons a p ih =>
    unfold trim
    split
    · rename_i h
      obtain ⟨h1, rfl⟩ := h
      rw [h1] at ih
      funext i
      cases i with
      | zero => simp [co]
      | succ i => rw [co_cons_succ, ← ih]; simp [co]
    · funext i
      cases i with
      | zero => simp [co]
      | succ i => rw [co_cons_succ, co_cons_succ, ih]
theorem trim_eq_nil {p : List F} : trim p = [] ↔ co p = ze := by
  constructor
  · intro h; rw [← co_trim, h, co_nil]
  · intro h
    induction p with
    | nil => rfl
    | cons a p ih =>
      have h0 : a = 0#8 := by have := congrFun h 0; rwa [co_cons_zero] at this
      have h1 : co p = ze := by rw [← sh_co_cons a p, h]; rfl
      unfold trim
      rw [if_pos ⟨ih h1, h0⟩]
theorem trim_of_co {p q : List F} (h : co p = co q) : trim p = trim q := by
  induction p generalizing q with
  | nil => exact (trim_eq_nil.2 (by rw [← h, co_nil])).symm
  | cons a p ih =>
    cases q with
    | nil => exact trim_eq_nil.2 (by rw [h, co_nil])
    | cons b q =>
      have h0 : a = b := by have := congrFun h 0; rwa [co_cons_zero, co_cons_zero] at this
      have h1 : co p = co q := by rw [← sh_co_cons a p, h, sh_co_cons]
      subst h0
      unfold trim
      rw [ih h1]
def Nrm (p : List F) : Prop := trim p = p
theorem trim_trim (p : List F) : trim (trim p) = trim p := trim_of_co (co_trim p)
theorem nrm_trim (p : List F) : Nrm (trim p) := trim_trim p
theorem nrm_nil : Nrm [] := rfl
theorem Nrm.ext {p q : List F} (hp : Nrm p) (hq : Nrm q) (h : co p = co q) : p = q := by rw [← hp, ← hq, trim_of_co h]
theorem Nrm.tail {a : F} {p : List F} (h : Nrm (a :: p)) : Nrm p := by
  unfold Nrm trim at h
  split at h
  · cases h
  · exact (List.cons.inj h).2
theorem trim_len (p : List F) : (trim p).length ≤ p.length := by
  induction p with
  | nil => simp [trim]
  | cons a p ih => unfold trim; split <;> simp <;> omega
theorem trim_take (p : List F) : p.take (trim p).length = trim p := by
  induction p with
  | nil => simp [trim]
  | cons a p ih => unfold trim; split <;> simp [ih]
/-- Leading coefficient. -/
theorem Nrm.lead {p : List F} (h : Nrm p) (h0 : p ≠ []) : co p (p.length - 1) ≠ 0#8 := by
  induction p with
  | nil => exact absurd rfl h0
  | cons a p ih =>
    cases p with
    | nil =>
      unfold Nrm trim at h
      simp only [trim, true_and] at h
      split at h
      · cases h
      · rename_i h2
        simpa [co] using h2
    | cons b p =>
      have := ih h.tail (by simp)
      simpa [co] using this
theorem nrm_of_lead {p : List F} (h : p ≠ [] → co p (p.length - 1) ≠ 0#8) : Nrm p := by
  induction p with
  | nil => rfl
  | cons a p ih =>
    unfold Nrm trim
    have h' := h (by simp)
    cases p with
    | nil =>
      rw [if_neg]
      · rfl
      · rintro ⟨_, rfl⟩; exact h' (by simp [co])
    | cons b p =>
      have hn : Nrm (b :: p) := ih (fun _ => by simpa [co] using h')
      rw [hn, if_neg (by simp)]
/-- Below n there are no more coefficients. -/
theorem trim_len_le {p : List F} {n : Nat} (h : Bel n (co p)) : (trim p).length ≤ n := by
  rcases Nat.lt_or_ge n (trim p).length with hlt | hge
  · have hne : trim p ≠ [] := fun h0 => by rw [h0] at hlt; simp at hlt
    have := (nrm_trim p).lead hne
    rw [co_trim, h _ (by omega)] at this
    exact absurd rfl this
  · exact hge
theorem trim_snoc_zero (p : List F) : trim (p ++ [0#8]) = trim p := trim_of_co (by
  funext i
  simp only [co, List.getD_eq_getElem?_getD]
  rcases Nat.lt_or_ge i p.length with h | h
  · rw [List.getElem?_append_left h]
  · rw [List.getElem?_append_right h, List.getElem?_eq_none (l := p) h]
    cases hh : i - p.length with
    | zero => simp
    | succ n => simp)
theorem trim_snoc {p : List F} {a : F} (h : a ≠ 0#8) : trim (p ++ [a]) = p ++ [a] := nrm_of_lead (fun _ => by simpa [co] using h)

/-- The table of a series. -/
def tab (n : Nat) (f : Ser) : List F := (List.range n).map f
theorem tab_length (n : Nat) (f : Ser) : (tab n f).length = n := by simp [tab]
theorem tab_at {n i : Nat} (f : Ser) (h : i < n) : co (tab n f) i = f i := by simp [co, tab, h]
theorem co_tab {n : Nat} {f : Ser} (h : Bel n f) : co (tab n f) = f := by
  funext i
  rcases Nat.lt_or_ge i n with h1 | h1
  · exact tab_at f h1
  · rw [h i h1]; exact co_bel _ _ (by rw [tab_length]; exact h1)
theorem tab_co (p : List F) : tab p.length (co p) = p := ext_co (tab_length ..) (co_tab (co_bel p))

/-- Eval by Horner. -/
def ev : List F → F → F
  | [], _ => 0#8
  | a :: p, x => mul (ev p x) x ^^^ a
theorem ev_ze {p : List F} (h : co p = ze) (x : F) : ev p x = 0#8 := by
  induction p with
  | nil => rfl
  | cons a p ih =>
    have h0 : a = 0#8 := by have := congrFun h 0; rwa [co_cons_zero] at this
    have h1 : co p = ze := by rw [← sh_co_cons a p, h]; rfl
    rw [ev, ih h1, h0, zero_mul]; simp
theorem ev_co {p q : List F} (h : co p = co q) (x : F) : ev p x = ev q x := by
  induction p generalizing q with
  | nil => exact (ev_ze (by rw [← h, co_nil]) x).symm
  | cons a p ih =>
    cases q with
    | nil => exact ev_ze (by rw [h, co_nil]) x
    | cons b q =>
      have h0 : a = b := by have := congrFun h 0; rwa [co_cons_zero, co_cons_zero] at this
      have h1 : co p = co q := by rw [← sh_co_cons a p, h, sh_co_cons]
      rw [ev, ev, ih h1, h0]
theorem ev_trim (p : List F) (x : F) : ev (trim p) x = ev p x := ev_co (co_trim p) x

/-- Sums and products as lists. -/
def addL : List F → List F → List F
  | [], q => q
  | p, [] => p
  | a :: p, b :: q => (a ^^^ b) :: addL p q
theorem co_addL (p q : List F) : co (addL p q) = ad (co p) (co q) := by
  induction p generalizing q with
  | nil => rw [co_nil, ze_ad]; cases q <;> rfl
  | cons a p ih =>
    cases q with
    | nil => rw [co_nil, ad_ze]; rfl
    | cons b q =>
      funext i
      cases i with
      | zero => simp [addL, co, ad]
      | succ i => rw [addL, co_cons_succ, ih]; simp [ad, co]
theorem addL_length (p q : List F) : (addL p q).length = max p.length q.length := by
  induction p generalizing q with
  | nil => cases q <;> simp [addL]
  | cons a p ih =>
    cases q with
    | nil => simp [addL]
    | cons b q => simp only [addL, List.length_cons, ih]; omega
theorem ev_addL (p q : List F) (x : F) : ev (addL p q) x = ev p x ^^^ ev q x := by
  induction p generalizing q with
  | nil => simp [ev, addL]
  | cons a p ih =>
    cases q with
    | nil => simp [ev, addL]
    | cons b q => rw [addL, ev, ev, ev, ih, mul_add_left, xor4]
def scL (c : F) (p : List F) : List F := p.map (mul c)
theorem co_scL (c : F) (p : List F) : co (scL c p) = sm c (co p) := by
  funext i
  rcases Nat.lt_or_ge i p.length with h | h
  · simp [co, scL, sm, h]
  · simp [co, scL, sm, List.getElem?_eq_none h, mul_zero]
theorem scL_length (c : F) (p : List F) : (scL c p).length = p.length := by simp [scL]
theorem ev_scL (c : F) (p : List F) (x : F) : ev (scL c p) x = mul c (ev p x) := by
  induction p with
  | nil => simp [scL, ev, mul_zero]
  | cons a p ih => simp only [scL, List.map_cons, ev] at *; rw [ih, mul_add_right, mul_assoc]
def mulL : List F → List F → List F
  | [], _ => []
  | a :: p, q => addL (scL a q) (0#8 :: mulL p q)
theorem co_zero_cons (p : List F) : co (0#8 :: p) = up (co p) := by
  funext i; cases i with
  | zero => simp [co, up]
  | succ i => simp [co, up]
theorem cv_cons (a : F) (p : List F) (g : Ser) : cv (co (a :: p)) g = ad (sm a g) (up (cv (co p) g)) := by
  funext n
  cases n with
  | zero => simp [cv, ad, sm, up, co]
  | succ n =>
    show mul (co (a :: p) 0) (g (n + 1)) ^^^ cv (sh (co (a :: p))) g n = _
    rw [sh_co_cons, co_cons_zero]; rfl
theorem co_mulL (p q : List F) : co (mulL p q) = cv (co p) (co q) := by
  induction p with
  | nil => rw [co_nil, ze_cv]; exact co_nil
  | cons a p ih => rw [mulL, co_addL, co_scL, co_zero_cons, ih, cv_cons]
theorem ev_mulL (p q : List F) (x : F) : ev (mulL p q) x = mul (ev p x) (ev q x) := by
  induction p with
  | nil => simp [mulL, ev, zero_mul]
  | cons a p ih =>
    rw [mulL, ev_addL, ev_scL, ev, ih, ev, mul_add_left, BitVec.xor_comm]
    simp only [BitVec.xor_zero]
    rw [mul_assoc, mul_assoc, mul_comm (ev q x) x]
/-- What a series with finitely many coefficients is at x. -/
theorem ev_of_cv {p q r : List F} (h : co r = cv (co p) (co q)) (x : F) : ev r x = mul (ev p x) (ev q x) := by
  rw [← ev_mulL]; exact ev_co (by rw [h, co_mulL]) x
theorem ev_of_ad {p q r : List F} (h : co r = ad (co p) (co q)) (x : F) : ev r x = ev p x ^^^ ev q x := by
  rw [← ev_addL]; exact ev_co (by rw [h, co_addL]) x
/-- The product of trimmed polynomials is trimmed. -/
theorem cv_lead {p q : List F} (hp : p ≠ []) (hq : q ≠ []) : Bel (p.length + q.length - 1) (cv (co p) (co q)) ∧ cv (co p) (co q) (p.length + q.length - 2) = mul (co p (p.length - 1)) (co q (q.length - 1)) := by
  have h1 : 0 < p.length := List.length_pos_iff.2 hp
  have h2 : 0 < q.length := List.length_pos_iff.2 hq
  have a : Bel (p.length - 1 + 1) (co p) := by rw [Nat.sub_add_cancel h1]; exact co_bel p
  have b : Bel (q.length - 1 + 1) (co q) := by rw [Nat.sub_add_cancel h2]; exact co_bel q
  obtain ⟨x, y⟩ := a.cv b
  exact ⟨by rw [show p.length + q.length - 1 = p.length - 1 + (q.length - 1) + 1 from by omega]; exact x, by rw [show p.length + q.length - 2 = p.length - 1 + (q.length - 1) from by omega]; exact y⟩
def prodL (p q : List F) : List F := if p = [] ∨ q = [] then [] else tab (p.length + q.length - 1) (cv (co p) (co q))
theorem co_prodL (p q : List F) : co (prodL p q) = cv (co p) (co q) := by
  unfold prodL
  split
  · rename_i h
    rcases h with rfl | rfl
    · rw [co_nil, ze_cv]
    · rw [co_nil, cv_ze]
  · rename_i h
    exact co_tab (cv_lead (fun h' => h (.inl h')) (fun h' => h (.inr h'))).1
theorem nrm_prodL {p q : List F} (hp : Nrm p) (hq : Nrm q) : Nrm (prodL p q) := by
  unfold prodL
  split
  · rfl
  · rename_i h
    have hp' : p ≠ [] := fun h' => h (.inl h')
    have hq' : q ≠ [] := fun h' => h (.inr h')
    have h1 : 0 < p.length := List.length_pos_iff.2 hp'
    have h2 : 0 < q.length := List.length_pos_iff.2 hq'
    refine nrm_of_lead (fun _ => ?_)
    rw [tab_length, show p.length + q.length - 1 - 1 = p.length + q.length - 2 from by omega, tab_at _ (by omega), (cv_lead hp' hq').2]
    intro h0
    rcases mul_eq_zero h0 with h3 | h3
    · exact hp.lead hp' h3
    · exact hq.lead hq' h3
/-- The Go program's Add and Mul (of a degree that is not too large). -/
def addP (p q : List F) : List F := trim (addL p q)
def mulP (p q : List F) : List F := prodL (trim p) (trim q)
theorem co_addP (p q : List F) : co (addP p q) = ad (co p) (co q) := by rw [addP, co_trim, co_addL]
theorem co_mulP (p q : List F) : co (mulP p q) = cv (co p) (co q) := by rw [mulP, co_prodL, co_trim, co_trim]
theorem nrm_addP (p q : List F) : Nrm (addP p q) := nrm_trim _
theorem nrm_mulP (p q : List F) : Nrm (mulP p q) := nrm_prodL (nrm_trim _) (nrm_trim _)
theorem mulP_length {p q : List F} (hp : trim p ≠ []) (hq : trim q ≠ []) : (mulP p q).length = (trim p).length + (trim q).length - 1 := by
  unfold mulP prodL
  rw [if_neg (by simp [hp, hq]), tab_length]
end Go.Proofs.Ytadcoeinnomjlaa.Gf
