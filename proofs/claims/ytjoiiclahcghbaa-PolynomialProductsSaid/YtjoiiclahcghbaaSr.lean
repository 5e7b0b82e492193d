/- What the printed functions of the reference of layer 2 come to. -/
import Derived.Test.YtjoiiclahcghbaaPGx2
import Derived.Test.YtjoiiclahcghbaaSg
namespace Go.Proofs.Ytjoiiclahcghbaa.PG
open Go.RowKit Go.Proofs.YtjoiiclahcghbaaW.PrintWords Go.Proofs.Ytjoiiclahcghbaa.Gf
theorem dbl2 : ∀ a : F, if I a ≥ 128 then Go.bits .xor .u8 ((I a * 2) % 256) 29 = I (dbl a) else (I a * 2) % 256 = I (dbl a) := by decide +kernel
theorem rMul_l0_ev (j : Nat) : ∀ (a c : F) (n : Nat), n < 2 ^ j → n < 256 → Ev (fun k => kinkeepref02_Mul.l0 k (I a) (n : Int) (I c)) (I (c ^^^ mulB j a n)) := by
  induction j with
  | zero =>
    intro a c n h _
    obtain rfl : n = 0 := by simp at h; exact h
    refine Ev.step (fun k => kinkeepref02_Mul.l0.eq_2 _ _ _ _) ?_
    simp only [if_pos (show (((0 : Nat) : Int) = 0) by decide), mulB, BitVec.xor_zero]
    exact Ev.now _
  | succ j ih =>
    intro a c n h hn
    refine Ev.step (fun k => kinkeepref02_Mul.l0.eq_2 _ _ _ _) ?_
    by_cases h0 : n = 0
    · subst h0
      simp only [if_pos (show (((0 : Nat) : Int) = 0) by decide), mulB_zero, BitVec.xor_zero]
      exact Ev.now _
    · have hd : (Int.tdiv (n : Int) 2) % 256 = ((n / 2 : Nat) : Int) := by
        rw [Int.tdiv_eq_ediv_of_nonneg (by omega)]; omega
      have hm : Int.tmod (n : Int) 2 = ((n % 2 : Nat) : Int) := by
        rw [Int.tmod_eq_emod_of_nonneg (by omega)]; omega
      have h2 : n / 2 < 2 ^ j := by rw [Nat.pow_succ] at h; omega
      have hb := dbl2 a
      simp only [if_neg (show ¬ (n : Int) = 0 by omega), hm, hd]
      by_cases h1 : n % 2 = 1
      · simp only [if_pos (show ((n % 2 : Nat) : Int) = 1 by omega), xor_I]
        have := ih (dbl a) (c ^^^ a) (n / 2) h2 (by omega)
        rw [mulB, if_pos h1, ← BitVec.xor_assoc]
        by_cases h8 : I a ≥ 128
        · simp only [if_pos h8] at hb ⊢
          rw [hb]
          exact this
        · simp only [if_neg h8] at hb ⊢
          rw [hb]
          exact this
      · simp only [if_neg (show ¬ ((n % 2 : Nat) : Int) = 1 by omega)]
        have := ih (dbl a) c (n / 2) h2 (by omega)
        rw [mulB, if_neg h1, BitVec.zero_xor]
        by_cases h8 : I a ≥ 128
        · simp only [if_pos h8] at hb ⊢
          rw [hb]
          exact this
        · simp only [if_neg h8] at hb ⊢
          rw [hb]
          exact this
theorem rMul_ev (a b : F) : Ev (fun k => kinkeepref02_Mul.f k (I a) (I b)) (I (mul a b)) := by
  have := rMul_l0_ev 8 a 0#8 b.toNat b.isLt b.isLt
  rw [BitVec.zero_xor] at this
  exact this
theorem byte_I (i : Nat) : ((i : Int)) % 256 = I (BitVec.ofNat 8 i) := by
  unfold I
  rw [BitVec.toNat_ofNat]
  omega
/-- The first element from i on for which p holds. -/
def scan (p : F → Bool) : Nat → Nat → F
  | 0, _ => 0#8
  | d + 1, i => if p (BitVec.ofNat 8 i) then BitVec.ofNat 8 i else scan p d (i + 1)
theorem rInv_l0_ev (a : F) (d : Nat) : ∀ i, i + d = 256 → Ev (fun k => kinkeepref02_Inv.l0 k (I a) (i : Int)) (I (scan (fun b => mul a b == 1#8) d i)) := by
  induction d with
  | zero =>
    intro i h
    refine Ev.step (fun k => kinkeepref02_Inv.l0.eq_2 _ _ _) ?_
    simp only [if_neg (show ¬ (i : Int) < 256 by omega)]
    exact Ev.now _
  | succ d ih =>
    intro i h
    refine Ev.step (fun k => kinkeepref02_Inv.l0.eq_2 _ _ _) ?_
    simp only [if_pos (show (i : Int) < 256 by omega), byte_I i]
    refine Ev.bind (rMul_ev _ _) ?_
    simp only [I_eq_one, scan, beq_iff_eq]
    by_cases hm : mul a (BitVec.ofNat 8 i) = 1#8
    · simp only [if_pos hm]
      exact Ev.now _
    · simp only [if_neg hm, wrap_up (show i < 256 by omega) (by decide)]
      exact ih (i + 1) (by omega)
theorem scan_eq (p : F → Bool) (x : F) (hx : p x = true) (hu : ∀ y, p y = true → y = x) (d : Nat) : ∀ i, i ≤ x.toNat → x.toNat < i + d → scan p d i = x := by
  induction d with
  | zero => intro i h1 h2; omega
  | succ d ih =>
    intro i h1 h2
    unfold scan
    split
    · rename_i h
      exact hu _ h
    · rename_i h
      refine ih (i + 1) ?_ (by omega)
      rcases Nat.lt_or_ge i x.toNat with h3 | h3
      · exact h3
      · obtain rfl : i = x.toNat := by omega
        rw [BitVec.ofNat_toNat, BitVec.setWidth_eq] at h
        exact absurd hx h
theorem scan_inv (a : F) (h : a ≠ 0#8) : scan (fun b => mul a b == 1#8) 255 1 = inv a := by
  refine scan_eq _ _ (by simpa using inv_ok a h) (fun y hy => inv_unique (by simpa using hy)) 255 1 ?_ ?_
  · have h0 := inv_ne h
    rcases Nat.eq_zero_or_pos (inv a).toNat with h1 | h1
    · exact absurd (BitVec.eq_of_toNat_eq (by simpa using h1)) h0
    · exact h1
  · have := (inv a).isLt
    omega
theorem rInv_ev {a : F} (h : a ≠ 0#8) : Ev (fun k => kinkeepref02_Inv.f k (I a)) (I (inv a)) := by
  have := rInv_l0_ev a 255 1 (by decide)
  rw [scan_inv a h] at this
  exact this
end Go.Proofs.Ytjoiiclahcghbaa.PG
