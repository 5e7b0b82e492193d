/- copy(dst, src) of bytes as a law for the walk: dst a row of the call's own, src a slice that is read. -/
import Derived.Test.YtadcoeinnomjlaaWWords
import Derived.Test.YtadcoeinnomjlaaWLast
import Derived.Laws.CopyOwn
namespace Go.Proofs.Ytadcoeinnomjlaa.PG
open Go.RowKit Go.Proofs.YtadcoeinnomjlaaW.PrintWords
theorem splice_take {α : Type} (L cs xs ys : List α) (n : Nat) (hx : L.take n = xs) (hc : cs = ys.take n) : (splice L 0 cs).take n = ys.take n ++ xs.drop ys.length := by
  subst hc
  unfold splice
  rw [List.take_zero, List.nil_append, Nat.zero_add, List.length_take, List.take_append, List.take_take, Nat.min_self, List.length_take]
  congr 1
  rw [← hx, List.drop_take]
  rcases Nat.le_total n ys.length with h | h
  · rw [Nat.min_eq_left h, show n - n = 0 by omega, show n - ys.length = 0 by omega, List.take_zero, List.take_zero]
  · rw [Nat.min_eq_right h]
section
variable {P : Program} {ops : Array Oper} {rest : List Oper} {o : Oper} {a : Act} {Q : Exit → Act → World → Prop}
theorem copy_bytes (hgd : o.guard = none) (d s : Operand) (T e : TypeId) (ho : o.op = .call { callee := .builtin .copy, args := #[d, s], argTypes := #[T, T] }) (hu : P.underlying T = some (.slice e)) (hsz : (P.info? e).map (·.size) = some 1)
    {w0 W : World} {base : Nat} {ok : Nat → Prop} (v : Value) (xs ys : List Int) (A : Option Addr) (m c : Nat) (hd : a.eval d = v) (hs : a.eval s = .slice A m c) (HO : Kd.R (Kd.int .u8) e W base ok v xs) (HR : Kd.C (Kd.int .u8) W A m ys) (HB : Below base w0 W)
    (h : ∀ n w1, Kd.R (Kd.int .u8) e w1 base ok v (ys.take xs.length ++ xs.drop ys.length) → Below base w0 w1 → wpList P ops Q rest (a.put o.dst (goInt n)) w1) : wpList P ops Q (o :: rest) a W := by
  have hown := Kd.own_of_R HO
  have hok := HO.1
  have hr := Kd.reads_of_C (enc := Value.int .u8) (d := (0 : Int)) (h1 := fun _ => rfl) HR
  have hm : ys.length = m := hr.1
  rcases hown.2 with ⟨rfl, hn⟩ | ⟨g, cap, cur, rfl, hb, hh, hnc, hcm, hsz2, htk⟩
  · refine wpList_copy_nothing hgd d s T T ho e hu hsz none A 0 0 m c hd hs (Nat.min_zero _) (h 0 W ?_ HB)
    obtain rfl : xs = [] := List.eq_nil_of_length_eq_zero hn
    simpa using HO
  · rw [Nat.mul_one] at hsz2 htk
    have hcl : cur.toList.length = cap := (Array.length_toList (xs := cur)).trans hsz2
    refine wpList_copy_splice hgd d s T T ho e hu hsz _ A xs.length cap m c hd hs g 0 cur.toList e (by simpa using hh) (encs (Value.int .u8) (ys.take xs.length)) ?_ ?_ ?_ ?_ base w0 HB hb ?_
    · rw [encs_length, List.length_take, hm, Nat.min_comm]
    · intro hp
      rw [encs_length, List.length_take] at hp
      obtain ⟨ad, rfl, hc⟩ := hr.2.2 (by omega)
      refine ⟨rfl, ad, rfl, fun j u hj => ?_⟩
      have hj' : j < (ys.take xs.length).length := by
        have := (List.getElem?_eq_some_iff.1 hj).1
        rwa [encs_length] at this
      have hj2 : j < ys.length := by rw [List.length_take] at hj'; omega
      rw [hc j (by omega)]
      rw [encs_get _ _ hj' (d := (0 : Int))] at hj
      rw [← hj]
      congr 2
      rw [List.getD_eq_getElem?_getD, List.getD_eq_getElem?_getD, List.getElem?_take_of_lt (by rw [List.length_take] at hj'; omega)]
    · rw [encs_length, List.length_take, hcl]; omega
    · intro u hu'
      obtain ⟨x, _, rfl⟩ := List.mem_map.1 hu'
      rfl
    · intro w1 hw hB
      refine h _ w1 (Kd.R_of_own ?_ hok) hB
      have hlen : (ys.take xs.length ++ xs.drop ys.length).length = xs.length := by simp; omega
      rw [hlen]
      refine ⟨by rw [encs_length, hlen]; omega, .inr ⟨g, cap, (splice cur.toList 0 (encs (Value.int .u8) (ys.take xs.length))).toArray, rfl, hb, hw.out, hnc, hcm, ?_, ?_⟩⟩
      · rw [List.size_toArray, length_splice _ _ _ (by rw [encs_length, List.length_take, hcl]; omega), hcl]; omega
      · rw [List.toList_toArray, Nat.mul_one, splice_take _ _ _ (encs (Value.int .u8) ys) _ htk (by simp [encs, List.map_take])]
        simp [encs, List.map_take, List.map_drop]
end
end Go.Proofs.Ytadcoeinnomjlaa.PG
