/- A map from whole numbers to truths that the call has made: which keys it holds true at. -/
import Derived.Test.YtadcoeinnomjlaaPGx0
import Derived.Maps.OwnOps
import Derived.Maps.Views
namespace Go.Proofs.Ytadcoeinnomjlaa.PG
open Go.RowKit Go.Proofs.YtadcoeinnomjlaaW.PrintWords Go.Maps
/-- Block b of w is a map of at most n entries that answers 'true' at the numbers of ks alone. -/
def MapB (P : Program) (K E : TypeId) (w : World) (b n : Nat) (ks : List Int) : Prop :=
  ∃ D : DataW Unit, w.ownsMap P K (plainElem P E) b n D ∧ Maps.IsMap D ∧ ∀ x : Int, D.atKey (.int .i64 x) (.lit (.bool false)) = .lit (.bool (decide (x ∈ ks)))
theorem MapB.made (P : Program) (K E : TypeId) (w : World) : MapB P K E (w.alloc (.map #[] 0)) w.heap.size 0 [] :=
  ⟨.map [], World.ownsMap_made _ _ _ _, Maps.isMap_empty, fun x => by simp [DataW.atKey]⟩
theorem plainElem_bool_inv {P : Program} {e : TypeId} (he : P.underlying e = some .bool) {v : Value} {z : DataW Unit × List MemPlace} (h : plainElem P e v = some z) : ∃ x, v = .bool x ∧ z = (.lit (.bool x), []) := by
  unfold plainElem at h
  rw [he] at h
  cases v <;> simp at h
  subst h
  exact ⟨_, rfl, rfl⟩
variable {P : Program} {K E T : TypeId} {w : World} {b n : Nat} {ks : List Int}
theorem MapB.lookup (h : MapB P K E w b n ks) (hT : P.underlying T = some (.map K E)) (hK : P.underlying K = some (.int .i64)) (hE : P.underlying E = some .bool) (hz : (zeroValue E).run P w = .ok (.bool false) w) {x : Int} (hw : (Lit.int .i64 x).wf = true) :
    (Instr.lookup T (.map (some b)) (.int .i64 x) false).run P w = .ok (.bool (decide (x ∈ ks))) w := by
  obtain ⟨D, ho, _, hD⟩ := h
  obtain ⟨v, ps, hrun, hv⟩ := ho.lookup (int_keyed hK) hT hz (plainElem_bool hE false) (keyOf_int_mk hK hw)
  obtain ⟨c, rfl, hc⟩ := plainElem_bool_inv hE hv
  rw [hD x] at hc
  have : c = decide (x ∈ ks) := by
    have h1 := congrArg Prod.fst hc
    simp only at h1
    injection h1 with h2
    injection h2 with h3
    exact h3.symm
  rw [hrun, this]
theorem MapB.update (h : MapB P K E w b n ks) (hT : P.underlying T = some (.map K E)) (hK : P.underlying K = some (.int .i64)) (hE : P.underlying E = some .bool) (hn : n < maxLen) {x : Int} (hw : (Lit.int .i64 x).wf = true) :
    ∃ w', (Instr.mapUpdate T (.map (some b)) (.int .i64 x) (.bool true)).run P w = .ok () w' ∧ MapB P K E w' b (n + 1) (ks ++ [x]) ∧ w.grownBy w' (some b) := by
  obtain ⟨D, ho, hm, hD⟩ := h
  obtain ⟨w', hrun, ho', hg⟩ := ho.update (int_keyed hK) hT hn (keyOf_int_mk hK hw) (plainElem_bool hE true)
  refine ⟨w', hrun, ⟨_, ho', hm.put _ _, fun y => ?_⟩, hg⟩
  by_cases e : y = x
  · subst e
    rw [Maps.atKey_put_same hm (by trivial)]
    simp
  · rw [Maps.atKey_put_other (fun e2 => e (by injection e2)), hD]
    simp [e]
theorem MapB.kept {w' : World} {row : Option Nat} (h : MapB P K E w b n ks) (hg : w.grownBy w' row) (hne : some b ≠ row) : MapB P K E w' b n ks := by
  obtain ⟨D, ho, hm, hD⟩ := h
  exact ⟨D, ho.kept hg hne, hm, hD⟩
theorem MapB.lt (h : MapB P K E w b n ks) : b < w.heap.size := by
  obtain ⟨D, ho, _⟩ := h
  exact ho.lt
theorem MapB.mono (h : MapB P K E w b n ks) {m : Nat} (hm : n ≤ m) : MapB P K E w b m ks := by
  obtain ⟨D, ho, h1, hD⟩ := h
  exact ⟨D, ho.mono hm, h1, hD⟩
/-- The map at the operations, for the walk. -/
theorem wp_lookupB {ops : Array Oper} {rest : List Oper} {o : Oper} {a : Act} {Q : Exit → Act → World → Prop} (hop : o.guard = none) (m x : Operand) (ho : o.op = Op.lookup T m x false)
    (hT : P.underlying T = some (.map K E)) (hK : P.underlying K = some (.int .i64)) (hE : P.underlying E = some .bool) (hz : (zeroValue E).run P w = .ok (.bool false) w) (h : MapB P K E w b n ks) (hm : a.eval m = .map (some b)) (y : Int) (hx : a.eval x = .int .i64 y) (hw : (Lit.int .i64 y).wf = true)
    (hQ : wpList P ops Q rest (a.put o.dst (.bool (decide (y ∈ ks)))) w) : wpList P ops Q (o :: rest) a w := by
  refine wpList_plain hop fun K' hK' => ?_
  unfold Oper.wp
  simp [execOp, ho, hm, hx, h.lookup hT hK hE hz hw, Result.andThen]
  exact hK' _ _ hQ
theorem wp_updateB {ops : Array Oper} {rest : List Oper} {o : Oper} {a : Act} {Q : Exit → Act → World → Prop} (hop : o.guard = none) (m x v : Operand) (ho : o.op = Op.mapUpdate T m x v)
    (hT : P.underlying T = some (.map K E)) (hK : P.underlying K = some (.int .i64)) (hE : P.underlying E = some .bool) (h : MapB P K E w b n ks) (hn : n < maxLen) (hm : a.eval m = .map (some b)) (y : Int) (hx : a.eval x = .int .i64 y) (hv : a.eval v = .bool true) (hw : (Lit.int .i64 y).wf = true)
    (hQ : ∀ w', MapB P K E w' b (n + 1) (ks ++ [y]) → w.grownBy w' (some b) → wpList P ops Q rest (a.put o.dst undef) w') : wpList P ops Q (o :: rest) a w := by
  refine wpList_plain hop fun K' hK' => ?_
  obtain ⟨w', hrun, r1, r2⟩ := h.update hT hK hE hn hw
  unfold Oper.wp
  simp [execOp, ho, hm, hx, hv, hrun, Result.andThen]
  exact hK' _ _ (hQ w' r1 r2)
end Go.Proofs.Ytadcoeinnomjlaa.PG
