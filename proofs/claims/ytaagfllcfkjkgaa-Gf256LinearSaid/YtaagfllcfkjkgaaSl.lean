/- What the printed functions of gf256 on slices, and the reference's, come to. -/
import Derived.Test.YtaagfllcfkjkgaaPGx2
import Derived.Test.YtaagfllcfkjkgaaPGx3
import Derived.Test.YtaagfllcfkjkgaaPGx4
import Derived.Test.YtaagfllcfkjkgaaSr
namespace Go.Proofs.Ytaagfllcfkjkgaa.PG
open Go.RowKit Go.Proofs.YtaagfllcfkjkgaaW.PrintWords Go.Proofs.Ytaagfllcfkjkgaa.Gf
theorem Scale_I (p : List F) (c : F) (hp : p.length ≤ 281474976710656) : gf256_Scale.f (IL p) (I c) = some (IL (p.map fun x => mul x c)) := by
  unfold gf256_Scale.f
  rw [if_pos ⟨I_range c, fun x hx => by
    obtain ⟨a, _, rfl⟩ := List.mem_map.1 hx
    exact I_range a, by rw [IL_length]; exact hp⟩, Fi_I]
  congr 1
  unfold IL
  rw [List.map_map, List.map_map]
  apply List.map_congr_left
  intro a _
  show I (mul (BitVec.ofNat 8 (I a).toNat) c) = I (mul a c)
  rw [show BitVec.ofNat 8 (I a).toNat = a by unfold I; simp]
theorem set_IL (p : List F) (i : Nat) (a : F) : (IL p).set i (I a) = IL (p.set i a) := by simp [IL, List.map_set]
theorem IL_append (p q : List F) : IL (p ++ q) = IL p ++ IL q := by simp [IL]
/-- The first i of A, what follows of B. -/
def mix {α : Type} (A B : List α) (i : Nat) : List α := A.take i ++ B.drop i
theorem mix_length {α : Type} (A B : List α) (i : Nat) (h : A.length = B.length) : (mix A B i).length = B.length := by simp [mix]; omega
theorem mix_zero {α : Type} (A B : List α) : mix A B 0 = B := by simp [mix]
theorem mix_all {α : Type} (A B : List α) (h : A.length = B.length) : mix A B A.length = A := by rw [mix, List.take_length, List.drop_of_length_le (by omega), List.append_nil]
theorem mix_at {α : Type} (A B : List α) (i : Nat) (h : A.length = B.length) (hi : i < B.length) : (mix A B i)[i]? = some (B[i]) := by
  unfold mix
  rw [List.getElem?_append_right (by simp; omega), List.length_take, Nat.min_eq_left (by omega), Nat.sub_self, List.getElem?_drop]
  simp [hi]
theorem mix_set {α : Type} (A B : List α) (i : Nat) (h : A.length = B.length) (hi : i < B.length) : (mix A B i).set i (A[i]'(h ▸ hi)) = mix A B (i + 1) := by
  have hA : i < A.length := h ▸ hi
  unfold mix
  rw [List.set_append_right _ _ (by simp; omega), List.length_take, Nat.min_eq_left (by omega), Nat.sub_self, List.drop_eq_getElem_cons hi, List.set_cons_zero, List.take_succ_eq_append_getElem hA, List.append_assoc]
  rfl
/-- Sums of p and products of q by c. -/
def maL (p q : List F) (c : F) : List F := List.zipWith (fun x y => x ^^^ mul y c) p q
theorem maL_length {p q : List F} (c : F) (h : p.length = q.length) : (maL p q c).length = p.length := by simp [maL, h]
theorem MulAdd_l0_ev {p q : List F} (c : F) (hl : p.length = q.length) (hm : p.length ≤ 140737488355328) (d : Nat) : ∀ i : Nat, i + d = p.length →
    Ev (fun k => gf256_MulAdd.l0 k (IL (mix (maL p q c) (q.map fun x => mul x c) i)) (IL p) (p.length : Int) (i : Int)) (IL (maL p q c), 0) := by
  have hL : (maL p q c).length = (q.map fun x => mul x c).length := by rw [maL_length c hl]; simp [hl]
  induction d with
  | zero =>
    intro i hi
    refine Ev.step (fun k => gf256_MulAdd.l0.eq_2 _ _ _ _ _) ?_
    simp only [if_neg (show ¬ ((i : Int) < (p.length : Int)) by omega)]
    rw [show i = (maL p q c).length by rw [maL_length c hl]; omega, mix_all _ _ hL]
    exact Ev.now _
  | succ d ih =>
    intro i hi
    have h1 : i < p.length := by omega
    have h2 : i < (q.map fun x => mul x c).length := by simp; omega
    refine Ev.step (fun k => gf256_MulAdd.l0.eq_2 _ _ _ _ _) ?_
    have hr : rd (IL (mix (maL p q c) (q.map fun x => mul x c) i)) (i : Int) = I (mul (q[i]'(hl ▸ h1)) c) := by
      unfold rd IL
      rw [Int.toNat_natCast, List.getD_eq_getElem?_getD, List.getElem?_map, mix_at _ _ _ hL h2]
      simp
    simp only [IL_length, mix_length _ _ _ hL, if_pos (show (i : Int) < (p.length : Int) by omega), if_pos (show (0 : Int) ≤ (i : Int) by omega), if_pos (show (i : Int) < (((q.map fun x => mul x c).length : Nat) : Int) by omega), rd_IL h1, hr, Add_I, Option.bind_some, Int.toNat_natCast, set_IL, wrap_up h1 hm]
    have := ih (i + 1) (by omega)
    rw [← mix_set _ _ _ hL h2] at this
    rw [show (maL p q c)[i]'(hL ▸ h2) = mul (q[i]'(hl ▸ h1)) c ^^^ p[i] by simp [maL]; rw [BitVec.xor_comm]] at this
    exact this
theorem MulAdd_ev {p q : List F} (c : F) (hl : p.length = q.length) (hm : p.length ≤ 140737488355328) : Ev (fun k => gf256_MulAdd.f k (IL p) (IL q) (I c)) (IL (maL p q c), 0) := by
  unfold gf256_MulAdd.f
  simp only [IL_length, if_pos (show (p.length : Int) = (q.length : Int) by omega), Scale_I q c (by omega), Option.bind_some]
  have := MulAdd_l0_ev c hl hm p.length 0 (by omega)
  rw [mix_zero] at this
  exact this
theorem MulAdd_ne_ev {p q : List F} (c : F) (hl : p.length ≠ q.length) : Ev (fun k => gf256_MulAdd.f k (IL p) (IL q) (I c)) (([] : List Int), (1 : Int)) := by
  unfold gf256_MulAdd.f
  simp only [IL_length, if_neg (show ¬ (p.length : Int) = (q.length : Int) by omega)]
  exact Ev.now _
theorem rMulAdd_l0_ev {p q : List F} (c : F) (hl : p.length = q.length) (hm : p.length ≤ 200) (d : Nat) : ∀ i : Nat, i + d = p.length →
    Ev (fun k => kinkeepref02_MulAdd.l0 k (IL p) (IL q) (I c) (IL ((maL p q c).take i)) (p.length : Int) (i : Int)) (IL (maL p q c)) := by
  have hL := maL_length c hl
  induction d with
  | zero =>
    intro i hi
    refine Ev.step (fun k => kinkeepref02_MulAdd.l0.eq_2 _ _ _ _ _ _ _) ?_
    simp only [if_neg (show ¬ ((i : Int) < (p.length : Int)) by omega)]
    rw [List.take_of_length_le (by omega)]
    exact Ev.now _
  | succ d ih =>
    intro i hi
    have h1 : i < p.length := by omega
    refine Ev.step (fun k => kinkeepref02_MulAdd.l0.eq_2 _ _ _ _ _ _ _) ?_
    simp only [IL_length, if_pos (show (i : Int) < (p.length : Int) by omega), if_pos (show (0 : Int) ≤ (i : Int) by omega), if_pos (show (i : Int) < (q.length : Int) by omega), rd_IL h1, rd_IL (show i < q.length by omega), wrap_up h1 (show p.length ≤ 140737488355328 by omega)]
    refine Ev.bind (rMul_ev _ _) ?_
    simp only [xor_I, if_pos (show ((maL p q c).take i).length < 140737488355328 by rw [List.length_take]; omega)]
    have := ih (i + 1) (by omega)
    rw [List.take_succ_eq_append_getElem (by omega), IL_append] at this
    rw [show (maL p q c)[i]'(by omega) = p[i] ^^^ mul (q[i]'(hl ▸ h1)) c by simp [maL]] at this
    exact this
theorem rMulAdd_ev {p q : List F} (c : F) (hl : p.length = q.length) (hm : p.length ≤ 200) : Ev (fun k => kinkeepref02_MulAdd.f k (IL p) (IL q) (I c)) (IL (maL p q c)) := by
  unfold kinkeepref02_MulAdd.f
  simp only [IL_length]
  exact rMulAdd_l0_ev c hl hm p.length 0 (by omega)
theorem rDot_l0_ev {p q : List F} (hl : p.length = q.length) (hm : p.length ≤ 140737488355328) (d : Nat) : ∀ (i : Nat) (c : F), i + d = p.length →
    Ev (fun k => kinkeepref02_Dot.l0 k (IL p) (IL q) (I c) (p.length : Int) (i : Int)) (I (c ^^^ dotL (p.drop i) (q.drop i))) := by
  induction d with
  | zero =>
    intro i c hi
    refine Ev.step (fun k => kinkeepref02_Dot.l0.eq_2 _ _ _ _ _ _) ?_
    simp only [if_neg (show ¬ ((i : Int) < (p.length : Int)) by omega)]
    rw [List.drop_of_length_le (by omega), dotL, BitVec.xor_zero]
    · exact Ev.now _
    · intro a p b q h; cases h
  | succ d ih =>
    intro i c hi
    have h1 : i < p.length := by omega
    refine Ev.step (fun k => kinkeepref02_Dot.l0.eq_2 _ _ _ _ _ _) ?_
    simp only [IL_length, if_pos (show (i : Int) < (p.length : Int) by omega), if_pos (show (0 : Int) ≤ (i : Int) by omega), if_pos (show (i : Int) < (q.length : Int) by omega), rd_IL h1, rd_IL (show i < q.length by omega), wrap_up h1 hm]
    refine Ev.bind (rMul_ev _ _) ?_
    simp only [xor_I]
    rw [dot_drop h1 hl, ← BitVec.xor_assoc]
    exact ih (i + 1) _ (by omega)
theorem rDot_ev {p q : List F} (hl : p.length = q.length) (hm : p.length ≤ 140737488355328) : Ev (fun k => kinkeepref02_Dot.f k (IL p) (IL q)) (I (dotL p q)) := by
  unfold kinkeepref02_Dot.f
  simp only [IL_length]
  have := rDot_l0_ev hl hm p.length 0 0#8 (by omega)
  rw [BitVec.zero_xor] at this
  exact this
theorem rSame_I (l : List Int) : kinkeepref02_Same.f l l = some true := by
  unfold kinkeepref02_Same.f
  rw [beq_self_eq_true]
theorem replicate_IL (n : Nat) : List.replicate n (0 : Int) = IL (List.replicate n 0#8) := by simp [IL, I]
end Go.Proofs.Ytaagfllcfkjkgaa.PG
