/- For every other master key there is exactly one choice of coefficients that gives the members the same shares. No condition (thresholds up to 5 are examined). -/
import Derived.Test.YtadcoeinnomjlaaTop
import Derived.Test.YtadcoeinnomjlaaSh
namespace Go.Proofs.Ytadcoeinnomjlaa.Pure
open Go.RowKit Go.Proofs.Ytadcoeinnomjlaa.PG Go.Proofs.YtadcoeinnomjlaaW.PrintWords Go.Proofs.YtadcoeinnomjlaaW.PrintLast Go.Proofs.Ytadcoeinnomjlaa.Gf
theorem ev_zero (p : List F) : ev p 0#8 = co p 0 := by
  cases p with
  | nil => rfl
  | cons a p => rw [ev, mul_zero, co_cons_zero]; simp
/-! pieces -/
theorem flat_len : ∀ L : List (List F), (∀ c ∈ L, c.length = 32) → L.flatten.length = 32 * L.length
  | [], _ => rfl
  | c :: L, h => by
    rw [List.flatten_cons, List.length_append, flat_len L (fun d hd => h d (by simp [hd])), h c (by simp), List.length_cons]
    omega
theorem chunks_flat (L : List (List F)) (h : ∀ c ∈ L, c.length = 32) : chunksF L.flatten L.length = L := by
  refine List.ext_getElem (chunksF_length ..) fun i h1 h2 => ?_
  simp only [chunksF, List.getElem_map, List.getElem_range]
  have e : L.flatten = (L.take i).flatten ++ (L[i] ++ (L.drop (i + 1)).flatten) := by
    rw [← List.flatten_cons, ← List.drop_eq_getElem_cons h2, ← List.flatten_append, List.take_append_drop]
  have hl := flat_len (L.take i) (fun c hc => h c (List.mem_of_mem_take hc))
  rw [List.length_take, Nat.min_eq_left (by omega)] at hl
  have hi := h _ (List.getElem_mem h2)
  rw [e, List.take_append, hl, List.drop_append, List.length_take, hl, List.take_of_length_le (by omega), show 32 * i + 32 - 32 * i = 32 by omega, show 32 * i - min (32 * i + 32) (32 * i) = 0 by omega, List.drop_zero,
    List.drop_eq_nil_of_le (by omega), List.nil_append, List.take_append, hi, List.take_of_length_le (by omega), Nat.sub_self, List.take_zero, List.append_nil]
theorem flat_chunks (cs : List F) (N : Nat) (h : 32 * N ≤ cs.length) : (chunksF cs N).flatten = cs.take (32 * N) := by
  induction N with
  | zero => simp [chunksF]
  | succ N ih =>
    have e : chunksF cs (N + 1) = chunksF cs N ++ [(cs.take (32 * N + 32)).drop (32 * N)] := by
      unfold chunksF
      rw [List.range_succ, List.map_append]
      rfl
    rw [e, List.flatten_append, ih (by omega), List.flatten_singleton]
    have e2 : cs.take (32 * N) = (cs.take (32 * N + 32)).take (32 * N) := by rw [List.take_take, Nat.min_eq_left (by omega)]
    rw [e2, List.take_append_drop]
    rfl
theorem IL_flat (L : List (List F)) : (L.map IL).flatten = IL L.flatten := by
  unfold IL
  rw [List.map_flatten]
/-! exactly one -/
section
variable {oth : List F} {X : List Int} {D : Int → List F}
theorem core (hn : (0#8 :: X.map Fi).Nodup) (hD : ∀ x ∈ X, (D x).length = oth.length) (cols : List (List F)) (hc : cols.length = X.length) (hl : ∀ c ∈ cols, c.length = oth.length) :
    (∀ x ∈ X, datum oth cols (Fi x) = D x) ↔ cols = (List.range X.length).map (fitL oth X D) := by
  have hlen : ∀ b, (0#8 :: X.map Fi).length = (co oth b :: X.map fun x => co (D x) b).length := fun b => by simp
  have ok := fun b => itP_ok (hlen b) hn
  have hP0 : ∀ b, co (fitP oth X D b) 0 = co oth b := fun b => by
    have := (ok b).2.2 0 (by simp)
    rw [List.getElem_cons_zero, ev_zero, co_cons_zero] at this
    exact this
  have hPx : ∀ b, ∀ x ∈ X, ev (fitP oth X D b) (Fi x) = co (D x) b := fun b x hx => by
    obtain ⟨i, hi, rfl⟩ := List.mem_iff_getElem.1 hx
    have := (ok b).2.2 (i + 1) (by simp; exact hi)
    rw [List.getElem_cons_succ, List.getElem_map, co_cons_succ, co_at (p := X.map fun x => co (D x) b) (by simpa using hi), List.getElem_map] at this
    exact this
  have hPB : ∀ b, Bel (X.length + 1) (co (fitP oth X D b)) := fun b => by
    have := (ok b).2.1
    rw [List.length_cons, List.length_map] at this
    exact this
  have hQB : ∀ b, Bel (X.length + 1) (co (polyAt oth cols b)) := fun b => by
    have := co_bel (polyAt oth cols b)
    rwa [show (polyAt oth cols b).length = X.length + 1 by simp [polyAt, hc]] at this
  have hQj : ∀ b j (h : j < cols.length), co (polyAt oth cols b) (j + 1) = co cols[j] b := fun b j h => by
    rw [polyAt, co_cons_succ, co_at (by simpa using h), List.getElem_map]
  constructor
  · intro h
    have hv : ∀ b, b < oth.length → co (polyAt oth cols b) = co (fitP oth X D b) := fun b hb => by
      refine eq_of_values hn (by rw [List.length_cons, List.length_map]; exact hQB b) (by rw [List.length_cons, List.length_map]; exact hPB b) fun z hz => ?_
      rcases List.mem_cons.1 hz with rfl | hz
      · rw [ev_zero, ev_zero, hP0, polyAt, co_cons_zero]
      · obtain ⟨x, hx, rfl⟩ := List.mem_map.1 hz
        rw [hPx b x hx, ← h x hx, datum, tab_at _ hb]
    refine List.ext_getElem (by simp [hc]) fun j h1 h2 => ?_
    rw [List.getElem_map, List.getElem_range]
    have hlj := hl _ (List.getElem_mem h1)
    refine ext_co (by rw [fitL, tab_length, hlj]) ?_
    funext b
    by_cases hb : b < oth.length
    · rw [fitL, tab_at _ hb, ← hQj b j h1, hv b hb]
    · rw [co_bel _ b (by omega), co_bel _ b (by rw [fitL, tab_length]; omega)]
  · intro h x hx
    refine ext_co (by rw [datum, tab_length, hD x hx]) ?_
    funext b
    by_cases hb : b < oth.length
    · rw [datum, tab_at _ hb, ← hPx b x hx]
      refine ev_co ?_ _
      funext i
      cases i with
      | zero => rw [hP0, polyAt, co_cons_zero]
      | succ j =>
        by_cases hj : j < cols.length
        · rw [hQj b j hj]
          have e : cols[j] = fitL oth X D j := by
            have := List.getElem_of_eq h hj
            rw [this, List.getElem_map, List.getElem_range]
          rw [e, fitL, tab_at _ hb]
        · rw [hQB b _ (by omega), hPB b _ (by omega)]
    · rw [co_bel _ b (by rw [datum, tab_length]; omega), co_bel _ b (by rw [hD x hx]; omega)]
end
theorem mem_ok (t : Int) : ∀ (l acc : List Int), acc.Nodup → (∀ x ∈ acc, 0 ≤ x ∧ x ≤ 11) → (acc.length : Int) ≤ t → (memGo t acc l).Nodup ∧ (∀ x ∈ memGo t acc l, 0 ≤ x ∧ x ≤ 11) ∧ ((memGo t acc l).length : Int) ≤ t
  | [], acc, h1, h2, h3 => ⟨h1, h2, h3⟩
  | x :: l, acc, h1, h2, h3 => by
    rw [memGo]
    by_cases hc : dayOf x ∉ acc ∧ (acc.length : Int) < t
    · rw [if_pos hc]
      refine mem_ok t l _ ?_ (fun y hy => ?_) (by rw [List.length_append, List.length_singleton]; omega)
      · rw [List.nodup_append]
        refine ⟨h1, by simp, fun a ha b hb => ?_⟩
        rw [List.mem_singleton.1 hb]
        exact fun e => hc.1 (e ▸ ha)
      · rcases List.mem_append.1 hy with h | h
        · exact h2 y h
        · rw [List.mem_singleton.1 h]
          have := dayOf_range x
          omega
    · rw [if_neg hc]
      exact mem_ok t l acc h1 h2 h3
theorem Fi_inj {x y : Int} (hx : 0 ≤ x ∧ x ≤ 255) (hy : 0 ≤ y ∧ y ≤ 255) (h : Fi x = Fi y) : x = y := by
  rw [← I_Fi (n := x) (by omega) (by omega), ← I_Fi (n := y) (by omega) (by omega), h]
theorem points_nodup {X : List Int} (hx : ∀ x ∈ X, 1 ≤ x ∧ x ≤ 255) (hn : X.Nodup) : (0#8 :: X.map Fi).Nodup := by
  refine List.nodup_cons.2 ⟨fun h => ?_, ?_⟩
  · obtain ⟨x, hx', e⟩ := List.mem_map.1 h
    have := hx x hx'
    have h2 := Fi_inj (x := x) (y := 0) (by omega) (by omega) e
    omega
  · exact List.pairwise_map.2 (hn.imp_of_mem (fun {a b} ha hb hab e => hab (Fi_inj (by have := hx a ha; omega) (by have := hx b hb; omega) e)))
theorem top_facts (a0 a1 : ByteArray) (T : Nat) (M : List Int) (cs gs : List F) (h0 : a0.size = 32) (h1 : a1.size = 32) (hT : T ≤ 4) (hcs : cs.length = 32 * T) (hgs : gs.length = 32 * T) (hM : ∀ x ∈ M, 0 ≤ x ∧ x ≤ 11) (hn : M.Nodup) (hml : M.length = T + 1) :
    ∃ K, ∀ k, K ≤ k → TopFacts k a0 a1 ((T : Int) + 1) M (IL cs) (IL gs) := by
  obtain ⟨xs, hxs⟩ : ∃ xs, xs = M.map (· + 1) := ⟨_, rfl⟩
  have hxl : xs.length = T + 1 := by rw [hxs, List.length_map, hml]
  have hxr : ∀ x ∈ xs, 1 ≤ x ∧ x ≤ 255 := fun x hx => by
    rw [hxs] at hx
    obtain ⟨y, hy, rfl⟩ := List.mem_map.1 hx
    have := hM y hy
    omega
  have hxn : xs.Nodup := by
    rw [hxs]
    exact hn.map _ (fun a b hab h => hab (by omega))
  obtain ⟨X, hX⟩ : ∃ X, X = xs.take T := ⟨_, rfl⟩
  have hXl : X.length = T := by rw [hX, List.length_take]; omega
  have hXr : ∀ x ∈ X, 1 ≤ x ∧ x ≤ 255 := fun x hx => hxr x (List.mem_of_mem_take (hX ▸ hx))
  have hXn : X.Nodup := hX ▸ hxn.sublist (List.take_sublist _ _)
  have hpn := points_nodup hXr hXn
  have ho : (secOf a1).length = 32 := by rw [secOf_length, h1]
  obtain ⟨D, hDe⟩ : ∃ D : Int → List F, D = fun x => datum (secOf a0) (chunksF cs T) (Fi x) := ⟨_, rfl⟩
  have hD : ∀ x ∈ X, (D x).length = (secOf a1).length := fun x _ => by
    rw [hDe]
    show (datum (secOf a0) (chunksF cs T) (Fi x)).length = _
    rw [datum, tab_length, secOf_length, h0, ho]
  have htake : ∀ (sec : List F) (cols : List (List F)), (sharesAt sec cols xs).take T = sharesD (fun x => datum sec cols (Fi x)) X := fun sec cols => by
    rw [sharesAt, sharesD, hX, List.map_take]
  obtain ⟨L, hL⟩ : ∃ L, L = (List.range X.length).map (fitL (secOf a1) X D) := ⟨_, rfl⟩
  have hLl : L.length = T := by rw [hL, List.length_map, List.length_range, hXl]
  have hL32 : ∀ c ∈ L, c.length = 32 := fun c hc => by
    rw [hL] at hc
    obtain ⟨j, _, rfl⟩ := List.mem_map.1 hc
    rw [fitL, tab_length, ho]
  have hfl := flat_len L hL32
  have hch : chunksF L.flatten T = L := by
    have := chunks_flat L hL32
    rwa [hLl] at this
  have hlists : ((List.range X.length).map fun j => IL (fitL (secOf a1) X D j)) = L.map IL := by rw [hL, List.map_map]; rfl
  have hcore := core hpn hD
  obtain ⟨K1, e1⟩ := Shares_ev a0 T cs M h0 hT hcs hM hn hml
  obtain ⟨K2, e2⟩ := Fits_ev (sec := secOf a1) (xs := X) (D := D) (by omega) (by omega) hD hXr hXn hpn
  obtain ⟨K3, e3⟩ := Shares_ev a1 T L.flatten M h1 hT (by rw [hfl, hLl]) hM hn hml
  obtain ⟨K4, e4⟩ := Same_ev (D := fun x => datum (secOf a1) L (Fi x)) (E := D) (xs := X) (by omega)
  obtain ⟨K5, e5⟩ := Shares_ev a1 T gs M h1 hT hgs hM hn hml
  obtain ⟨K6, e6⟩ := Same_ev (D := fun x => datum (secOf a1) (chunksF gs T) (Fi x)) (E := D) (xs := X) (by omega)
  rw [← hxs] at e1 e3 e5
  rw [hch] at e3
  rw [hlists, hXl] at e2
  refine ⟨K1 + K2 + K3 + K4 + K5 + K6, fun k hk => ⟨T, sharesAt (secOf a0) (chunksF cs T) xs, sharesAt (secOf a1) L xs, sharesAt (secOf a1) (chunksF gs T) xs, L.map IL, decide (∀ x ∈ X, datum (secOf a1) (chunksF gs T) (Fi x) = D x), rfl, by omega, e1 k (by omega), by simp [sharesAt, hxl], ?_, by rw [List.length_map, hLl], ?_, ?_, ?_, ?_, e5 k (by omega), by simp [sharesAt, hxl], ?_, ?_⟩⟩
  · rw [htake, bytesOf_sec]
    have := e2 k (by omega)
    rw [hDe] at this
    exact this
  · rw [IL_flat, IL_length, hfl, hLl]
    omega
  · rw [IL_flat]
    exact e3 k (by omega)
  · simp [sharesAt, hxl]
  · rw [htake, htake]
    have := e4 k (by omega)
    rw [decide_eq_true ((hcore L (by rw [hLl, hXl]) (fun c hc => by rw [hL32 c hc, ho])).2 hL), hDe] at this
    exact this
  · rw [htake, htake]
    have := e6 k (by omega)
    rw [hDe] at this ⊢
    exact this
  · rw [IL_flat, str_beq, decide_eq_decide]
    have hc := hcore (chunksF gs T) (by rw [chunksF_length, hXl]) (fun c hc => by rw [chunksF_mem hgs c hc, ho])
    rw [← hL] at hc
    have hg : (chunksF gs T).flatten = gs := by rw [flat_chunks gs T (by omega), ← hgs, List.take_length]
    constructor
    · intro h
      exact hc.2 (by rw [h, hch])
    · intro h
      rw [← hg, hc.1 h]
theorem TopSecretShares (a0 a1 : ByteArray) (a2 : Int) (l3 l4 l5 : List Int) (h4 : ∀ x ∈ l4, (Lit.int .u8 x).wf = true) (h5 : ∀ x ∈ l5, (Lit.int .u8 x).wf = true) :
    ∃ k, kinkeeptop_a16Awake.f k = some true ∧ (TopGuard a0 a1 a2 l3 l4 l5 → ¬ ((memGo a2 [] l3).length : Int) < a2 → TopFacts k a0 a1 a2 (memGo a2 [] l3) l4 l5) := by
  obtain ⟨cs, rfl⟩ := of_wfs h4
  obtain ⟨gs, rfl⟩ := of_wfs h5
  obtain ⟨K0, e0⟩ := awake16_ev
  by_cases hg : TopGuard a0 a1 a2 l3 (IL cs) (IL gs) ∧ ¬ ((memGo a2 [] l3).length : Int) < a2
  · obtain ⟨⟨g0, g1, g2, g3, g4, g5, g6⟩, hf⟩ := hg
    obtain ⟨m1, m2, m3⟩ := mem_ok a2 l3 [] List.nodup_nil (fun x hx => by cases hx) (by simp; omega)
    obtain ⟨T, rfl⟩ : ∃ T : Nat, a2 = (T : Int) + 1 := ⟨(a2 - 1).toNat, by omega⟩
    rw [IL_length] at g4 g5
    rw [IL_length] at g5
    obtain ⟨K1, e1⟩ := top_facts a0 a1 T _ cs gs g0 g1 (by omega) (by omega) (by omega) m2 m1 (by omega)
    exact ⟨K0 + K1, e0 _ (by omega), fun _ _ => e1 _ (by omega)⟩
  · exact ⟨K0, e0 _ (Nat.le_refl _), fun h1 h2 => absurd ⟨h1, h2⟩ hg⟩
end Go.Proofs.Ytadcoeinnomjlaa.Pure
