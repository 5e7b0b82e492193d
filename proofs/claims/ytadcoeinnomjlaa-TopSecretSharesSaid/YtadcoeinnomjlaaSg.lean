/- What the printed functions of gf256 come to, as elements of the field. -/
import Derived.Test.YtadcoeinnomjlaaPGx1
import Derived.Test.YtadcoeinnomjlaaGf
namespace Go.Proofs.Ytadcoeinnomjlaa.PG
open Go.RowKit Go.Proofs.YtadcoeinnomjlaaW.PrintWords Go.Proofs.Ytadcoeinnomjlaa.Gf
/-- An element as the program's number. -/
def I (a : F) : Int := (a.toNat : Int)
def Fi (n : Int) : F := BitVec.ofInt 8 n
theorem I_range (a : F) : 0 ≤ I a ∧ I a < 256 := by unfold I; have := a.isLt; omega
theorem Fi_I (a : F) : Fi (I a) = a := by unfold Fi I; simp
theorem I_Fi {n : Int} (h0 : 0 ≤ n) (h1 : n < 256) : I (Fi n) = n := by
  unfold Fi I
  rw [BitVec.toNat_ofInt]
  omega
theorem I_inj {a b : F} : I a = I b ↔ a = b := ⟨fun h => by rw [← Fi_I a, h, Fi_I], fun h => by rw [h]⟩
theorem I_zero : I 0#8 = 0 := rfl
theorem I_one : I 1#8 = 1 := rfl
theorem I_eq_zero {a : F} : I a = 0 ↔ a = 0#8 := by rw [← I_zero, I_inj]
theorem I_eq_one {a : F} : I a = 1 ↔ a = 1#8 := by rw [← I_one, I_inj]
theorem of_wf {n : Int} (h : (Lit.int .u8 n).wf = true) : ∃ a : F, n = I a := by
  have : 0 ≤ n ∧ n < 256 := by
    have e0 : IntKind.u8.min = 0 := rfl
    have e1 : IntKind.u8.max = 255 := rfl
    simp [Lit.wf, e0, e1] at h
    omega
  exact ⟨Fi n, (I_Fi this.1 this.2).symm⟩
theorem xor_I (a b : F) : Go.bits .xor .u8 (I a) (I b) = I (a ^^^ b) := by
  unfold Go.bits I
  simp only [BitVec.ofInt_natCast, IntKind.bits, BitVec.ofNat_toNat, BitVec.setWidth_eq]
  rw [IntKind.wrap_u8]
  change (((a ^^^ b : F).toNat : Int)) % 256 = ((a ^^^ b : F).toNat : Int)
  have := (a ^^^ b : F).isLt
  omega
theorem Add_I (a b : F) : gf256_Add.f (I a) (I b) = some (I (a ^^^ b)) := by rw [gf256_Add.f, xor_I]
theorem double_I : ∀ a : F, gf256_double.f (I a) = some (I (dbl a)) := by decide +kernel
theorem and1_u8 : ∀ n : Nat, n < 256 → Go.bits .and .u8 (n : Int) 1 = (n % 2 : Nat) := by decide +kernel
theorem and1_i64 : ∀ n : Nat, n < 256 → Go.bits .and .i64 (n : Int) 1 = (n % 2 : Nat) := by decide +kernel
theorem mulB_zero (j : Nat) : ∀ a : F, mulB j a 0 = 0#8 := by
  induction j with
  | zero => intro a; rfl
  | succ j ih => intro a; simp [mulB, ih]
theorem Mul_l0_ev (j : Nat) : ∀ (a c : F) (n : Nat), n < 2 ^ j → n < 256 → Ev (fun k => gf256_Mul.l0 k (I a) (n : Int) (I c)) (I (c ^^^ mulB j a n)) := by
  induction j with
  | zero =>
    intro a c n h _
    obtain rfl : n = 0 := by simp at h; exact h
    refine Ev.step (fun k => gf256_Mul.l0.eq_2 _ _ _ _) ?_
    simp only [if_neg (show ¬ (((0 : Nat) : Int) > 0) by decide), mulB, BitVec.xor_zero]
    exact Ev.now _
  | succ j ih =>
    intro a c n h hn
    refine Ev.step (fun k => gf256_Mul.l0.eq_2 _ _ _ _) ?_
    by_cases h0 : n = 0
    · subst h0
      simp only [if_neg (show ¬ (((0 : Nat) : Int) > 0) by decide), mulB_zero, BitVec.xor_zero]
      exact Ev.now _
    · have hd : (n : Int) / 2 = ((n / 2 : Nat) : Int) := by omega
      simp only [if_pos (show (n : Int) > 0 by omega), and1_u8 n hn, double_I, Add_I, Option.bind_some, hd]
      have h2 : n / 2 < 2 ^ j := by rw [Nat.pow_succ] at h; omega
      by_cases h1 : n % 2 = 1
      · simp only [if_pos (show ((n % 2 : Nat) : Int) = 1 by omega)]
        have := ih (dbl a) (c ^^^ a) (n / 2) h2 (by omega)
        rw [mulB, if_pos h1, ← BitVec.xor_assoc]
        exact this
      · simp only [if_neg (show ¬ ((n % 2 : Nat) : Int) = 1 by omega)]
        have := ih (dbl a) c (n / 2) h2 (by omega)
        rw [mulB, if_neg h1, BitVec.zero_xor]
        exact this
theorem Mul_ev (a b : F) : Ev (fun k => gf256_Mul.f k (I a) (I b)) (I (mul a b)) := by
  have := Mul_l0_ev 8 a 0#8 b.toNat b.isLt b.isLt
  rw [BitVec.zero_xor] at this
  exact this
theorem raise_l0_ev (j : Nat) : ∀ (a c : F) (n : Nat), n < 2 ^ j → n < 256 → Ev (fun k => gf256_raise.l0 k (I a) (n : Int) (I c)) (I (mul c (pow a n))) := by
  induction j with
  | zero =>
    intro a c n h _
    obtain rfl : n = 0 := by simp at h; exact h
    refine Ev.step (fun k => gf256_raise.l0.eq_2 _ _ _ _) ?_
    simp only [if_neg (show ¬ (((0 : Nat) : Int) > 0) by decide), pow, mul_one]
    exact Ev.now _
  | succ j ih =>
    intro a c n h hn
    refine Ev.step (fun k => gf256_raise.l0.eq_2 _ _ _ _) ?_
    by_cases h0 : n = 0
    · subst h0
      simp only [if_neg (show ¬ (((0 : Nat) : Int) > 0) by decide), pow, mul_one]
      exact Ev.now _
    · have hd : (n : Int) / 2 = ((n / 2 : Nat) : Int) := by omega
      simp only [if_pos (show (n : Int) > 0 by omega), and1_i64 n hn, hd]
      have h2 : n / 2 < 2 ^ j := by rw [Nat.pow_succ] at h; omega
      by_cases h1 : n % 2 = 1
      · simp only [if_pos (show ((n % 2 : Nat) : Int) = 1 by omega)]
        refine Ev.bind (Mul_ev c a) (Ev.bind (Mul_ev a a) ?_)
        have := ih (mul a a) (mul c a) (n / 2) h2 (by omega)
        rw [pow_sq, mul_assoc, ← show pow a (1 + 2 * (n / 2)) = mul a (pow a (2 * (n / 2))) from by rw [pow_add]; simp [pow, one_mul], show 1 + 2 * (n / 2) = n from by omega] at this
        exact this
      · simp only [if_neg (show ¬ ((n % 2 : Nat) : Int) = 1 by omega)]
        refine Ev.bind (Mul_ev a a) ?_
        have := ih (mul a a) c (n / 2) h2 (by omega)
        rw [pow_sq, show 2 * (n / 2) = n from by omega] at this
        exact this
theorem raise_ev (a : F) (n : Nat) (hn : n < 256) : Ev (fun k => gf256_raise.f k (I a) (n : Int)) (I (pow a n)) := by
  have := raise_l0_ev 8 a 1#8 n hn hn
  rw [one_mul] at this
  exact this
theorem inv_pow (a : F) : inv a = pow a 254 := raise_eq a 254 (by decide)
theorem Inv_ev {a : F} (h : a ≠ 0#8) : Ev (fun k => gf256_Inv.f k (I a)) (I (inv a), 0) := by
  unfold gf256_Inv.f
  simp only [if_neg (show ¬ I a = 0 from fun h' => h (I_eq_zero.1 h'))]
  have := raise_ev a 254 (by decide)
  rw [← inv_pow] at this
  exact Ev.bind this (Ev.now _)
theorem Inv0_ev : Ev (fun k => gf256_Inv.f k 0) ((0 : Int), (1 : Int)) := by
  unfold gf256_Inv.f
  simp only [if_true]
  exact Ev.now _
theorem Div_ev {a b : F} (h : b ≠ 0#8) : Ev (fun k => gf256_Div.f k (I a) (I b)) (I (mul a (inv b)), 0) := by
  unfold gf256_Div.f
  refine Ev.bind (Inv_ev h) ?_
  simp only [if_true]
  exact Ev.bind (Mul_ev _ _) (Ev.now _)
theorem Div0_ev {a : F} : Ev (fun k => gf256_Div.f k (I a) 0) ((0 : Int), (1 : Int)) := by
  unfold gf256_Div.f
  refine Ev.bind Inv0_ev ?_
  simp only [if_neg (show ¬ (1 : Int) = 0 by decide)]
  exact Ev.now _
/-! Lists of elements -/
def IL (p : List F) : List Int := p.map I
theorem IL_length (p : List F) : (IL p).length = p.length := by simp [IL]
theorem rd_IL {p : List F} {i : Nat} (h : i < p.length) : rd (IL p) (i : Int) = I (p[i]) := by
  simp [rd, IL, h]
theorem of_wfs {l : List Int} (h : ∀ x ∈ l, (Lit.int .u8 x).wf = true) : ∃ p : List F, l = IL p := by
  induction l with
  | nil => exact ⟨[], rfl⟩
  | cons x l ih =>
    obtain ⟨a, rfl⟩ := of_wf (h x (by simp))
    obtain ⟨p, rfl⟩ := ih (fun y hy => h y (by simp [hy]))
    exact ⟨a :: p, rfl⟩
theorem wrap_up {i n : Nat} (h : i < n) (hn : n ≤ 140737488355328) : wrap64 ((i : Int) + 1) = ((i + 1 : Nat) : Int) := by
  unfold wrap64
  omega
end Go.Proofs.Ytadcoeinnomjlaa.PG
