/- Arrays and lists that are filled from the front. -/
import Derived.Test.YtadcoeinnomjlaaSg
import Derived.Laws.Tables
import Derived.Laws.Rows
namespace Go.Proofs.Ytadcoeinnomjlaa.PG
open Go.RowKit Go.Proofs.YtadcoeinnomjlaaW.PrintWords
def fillT (f : Nat → Value) : Nat → Array Value → Array Value
  | 0, cs => cs
  | j + 1, cs => (fillT f j cs).setIfInBounds j (f j)
theorem fillT_size (f : Nat → Value) (j : Nat) (cs : Array Value) : (fillT f j cs).size = cs.size := by
  induction j with
  | zero => rfl
  | succ j ih => rw [fillT, Array.size_setIfInBounds, ih]
theorem fillT_at (f : Nat → Value) (n : Nat) (cs : Array Value) (hn : n ≤ cs.size) (i : Nat) (hi : i < n) : (fillT f n cs)[i]? = some (f i) := by
  induction n with
  | zero => omega
  | succ n ih =>
    rw [fillT, Array.getElem?_setIfInBounds]
    by_cases h : n = i
    · subst h
      rw [if_pos rfl, if_pos (by rw [fillT_size]; omega)]
    · rw [if_neg h]
      exact ih (by omega) (by omega)
def fillL (f : Nat → Int) : Nat → List Int → List Int
  | 0, xs => xs
  | j + 1, xs => (fillL f j xs).set j (f j)
theorem fillL_length (f : Nat → Int) (j : Nat) (xs : List Int) : (fillL f j xs).length = xs.length := by
  induction j with
  | zero => rfl
  | succ j ih => rw [fillL, List.length_set, ih]
theorem fillL_at (f : Nat → Int) (n : Nat) (xs : List Int) (hn : n ≤ xs.length) (i : Nat) (hi : i < n) : (fillL f n xs)[i]? = some (f i) := by
  induction n with
  | zero => omega
  | succ n ih =>
    rw [fillL, List.getElem?_set]
    by_cases h : n = i
    · subst h
      rw [if_pos rfl, if_pos (by rw [fillL_length]; omega)]
    · rw [if_neg h]
      exact ih (by omega) (by omega)
theorem I_ofNat {j : Nat} (h : j < 256) : I (BitVec.ofNat 8 j) = (j : Int) := by
  unfold I
  rw [BitVec.toNat_ofNat]
  omega
theorem fillT_one (f : Nat → Value) (hf : ∀ j, (f j).oneCell' = true) (n : Nat) (cs : Array Value) (hc : cs.all (·.oneCell') = true) : (fillT f n cs).all (·.oneCell') = true := by
  induction n with
  | zero => exact hc
  | succ n ih =>
    rw [Array.all_eq_true] at ih ⊢
    intro i hi
    simp only [fillT, Array.size_setIfInBounds] at hi ⊢
    rw [Array.getElem_setIfInBounds hi]
    split
    · exact hf n
    · exact ih i hi
/-- n zero cells. -/
def zArr (v : Value) (n : Nat) : Array Value := Array.replicate n v
theorem zArr_size (v : Value) (n : Nat) : (zArr v n).size = n := by simp [zArr]
theorem zArr_one (v : Value) (hv : v.oneCell' = true) (n : Nat) : (zArr v n).all (·.oneCell') = true := by
  rw [Array.all_eq_true]
  intro i hi
  simp only [zArr, Array.getElem_replicate]
  exact hv
theorem zArr_at (v : Value) {n i : Nat} (h : i < n) : (zArr v n)[i]? = some v := by simp [zArr, h]
/-- 'var a [n]T': the walk's law for it, whatever the program's load knows of the zero value. -/
theorem alloc_arr {P : Program} {ops : Array Oper} {rest : List Oper} {o : Oper} {a : Act} {Q : Exit → Act → World → Prop} {W : World} (hgd : o.guard = none) (t : TypeId) (ho : o.op = .alloc t) (Z : Array Value) (hz : ∀ w : World, (zeroValue t).run P w = .ok (.agg Z) w)
    (h : wpList P ops Q rest (a.put o.dst (.pointer (some ⟨W.heap.size, 0, none⟩))) (W.alloc (.cells Z t))) : wpList P ops Q (o :: rest) a W := by
  refine wpList_plain hgd fun K hK => ?_
  have hrun : (Instr.alloc t true (.tuple #[])).run P W = .ok (.pointer (some ⟨W.heap.size, 0, none⟩)) (W.alloc (.cells Z t)) := by
    simp [Instr.alloc, hz, newVar, newRow, Value.cells]
  unfold Oper.wp execOp
  simp only [ho, Sem.run_bind, Sem.run_pure, Result.andThen_ok, hrun]
  exact hK _ _ h
theorem run_index_in {P : Program} (t e : TypeId) (n : Nat) (cs : Array Value) (k : IntKind) (j : Nat) (v : Value) (i : TypeInfo) (ke : IntKind) (h : P.underlying t = some (.array n e)) (he : P.underlying e = some (.int ke)) (hi : P.info? e = some i) (hs : i.size = 1) (hj : j < n) (hv : cs[j]? = some v) (W : World) :
    (Instr.index t (.agg cs) (.int k (j : Int))).run P W = .ok v W := by
  simp [Instr.index, run_underlying h, asIntOf, part, run_underlying he, Go.sizeOf, typeInfo, hi, hs, hj, hv, isAgg]
/-! ## Which elements of a list of bytes have been seen -/
/-- Which of the first j elements have been seen. -/
def seenT (l : List Int) : Nat → Array Value → Array Value
  | 0, cs => cs
  | j + 1, cs => (seenT l j cs).setIfInBounds (rd l j).toNat (.bool true)
theorem seenT_size (l : List Int) (j : Nat) (cs : Array Value) : (seenT l j cs).size = cs.size := by
  induction j with
  | zero => rfl
  | succ j ih => rw [seenT, Array.size_setIfInBounds, ih]
/-- Does x stand among the first j elements? -/
def among (l : List Int) (x : Int) : Nat → Bool
  | 0 => false
  | j + 1 => among l x j || (rd l j).toNat == x.toNat
theorem seenT_at (l : List Int) (j : Nat) (x : Int) (hx : x.toNat < 256) : (seenT l j (zArr (.bool false) 256))[x.toNat]? = some (.bool (among l x j)) := by
  induction j with
  | zero => exact zArr_at _ hx
  | succ j ih =>
    rw [seenT, Array.getElem?_setIfInBounds, among]
    by_cases h : (rd l j).toNat = x.toNat
    · rw [if_pos h, if_pos (by rw [seenT_size, zArr_size]; omega), beq_iff_eq.2 h, Bool.or_true]
    · rw [if_neg h, ih, beq_eq_false_iff_ne.2 h, Bool.or_false]
/-- From place j on: is each element none of those ahead of it? -/
def distD (l : List Int) : Nat → Nat → Bool
  | 0, _ => true
  | d + 1, j => !(among l (rd l j) j) && distD l d (j + 1)
end Go.Proofs.Ytadcoeinnomjlaa.PG
