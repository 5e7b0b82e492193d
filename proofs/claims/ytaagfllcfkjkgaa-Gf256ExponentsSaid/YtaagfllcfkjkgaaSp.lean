/- Powers of the generator; what the printed Log, Order and the reference's powers come to. -/
import Derived.Test.YtaagfllcfkjkgaaPGx2
import Derived.Test.YtaagfllcfkjkgaaPGx5
import Derived.Test.YtaagfllcfkjkgaaPGx6
import Derived.Test.YtaagfllcfkjkgaaSr
namespace Go.Proofs.Ytaagfllcfkjkgaa.PG
open Go.RowKit Go.Proofs.YtaagfllcfkjkgaaW.PrintWords Go.Proofs.Ytaagfllcfkjkgaa.Gf
/-- The search for a logarithm with the power at hand. -/
def logX (a : F) : Nat → Nat → F → Nat
  | 0, j, _ => j
  | d + 1, j, x => if x = a then j else logX a d (j + 1) (dbl x)
theorem logX_eq (a : F) (d : Nat) : ∀ j, logX a d j (pow 2#8 j) = logN a d j := by
  induction d with
  | zero => intro j; rfl
  | succ d ih =>
    intro j
    rw [logX, logN, ← ih (j + 1), pow, dbl_pow]
theorem logX_all : ∀ a : F, a ≠ 0#8 → logX a 255 0 1#8 < 255 := by decide +kernel
def lg (a : F) : Nat := logN a 255 0
theorem lg_lt {a : F} (h : a ≠ 0#8) : lg a < 255 := by
  have := logX_all a h
  rwa [show (1#8 : F) = pow 2#8 0 from rfl, logX_eq] at this
theorem logN_hit (a : F) (d : Nat) : ∀ j, logN a d j < j + d → pow 2#8 (logN a d j) = a := by
  induction d with
  | zero => intro j h; simp [logN] at h
  | succ d ih =>
    intro j h
    unfold logN at h ⊢
    split
    · rename_i e; exact e
    · rename_i e
      rw [if_neg e] at h
      exact ih (j + 1) (by omega)
theorem logN_first (a : F) (d : Nat) : ∀ j i, j ≤ i → i < logN a d j → pow 2#8 i ≠ a := by
  induction d with
  | zero => intro j i h1 h2; simp [logN] at h2; omega
  | succ d ih =>
    intro j i h1 h2
    unfold logN at h2
    split at h2
    · omega
    · rename_i e
      rcases Nat.lt_or_ge j i with h3 | h3
      · exact ih (j + 1) i h3 h2
      · obtain rfl : i = j := by omega
        exact e
theorem pow_lg {a : F} (h : a ≠ 0#8) : pow 2#8 (lg a) = a := logN_hit a 255 0 (by have := lg_lt h; unfold lg at this; omega)
theorem pow_ne {a : F} (h : a ≠ 0#8) (n : Nat) : pow a n ≠ 0#8 := by
  induction n with
  | zero => show (1#8 : F) ≠ 0#8; decide
  | succ n ih => intro h0; rcases mul_eq_zero h0 with h1 | h1
                 · exact ih h1
                 · exact h h1
theorem pow_mul (a : F) (m n : Nat) : pow (pow a m) n = pow a (m * n) := by
  induction n with
  | zero => rfl
  | succ n ih => rw [pow, ih, Nat.mul_succ, pow_add]
theorem one_pow (n : Nat) : pow 1#8 n = 1#8 := by
  induction n with
  | zero => rfl
  | succ n ih => rw [pow, ih]; decide
theorem p255 : ∀ a : F, a ≠ 0#8 → raiseN 8 a 255 1#8 = 1#8 := by decide +kernel
theorem pow_255 {a : F} (h : a ≠ 0#8) : pow a 255 = 1#8 := by
  have := p255 a h
  rwa [raise_eq a 255 (by decide)] at this
theorem pow_mod {a : F} (h : a ≠ 0#8) (n : Nat) : pow a (n % 255) = pow a n := by
  conv => rhs; rw [← Nat.div_add_mod n 255]
  rw [pow_add, ← pow_mul, pow_255 h, one_pow, one_mul]
/-- The generator's powers below 255 are not 1. -/
def noOne : Nat → F → Bool
  | 0, _ => true
  | d + 1, x => if x = 1#8 then false else noOne d (dbl x)
theorem noOne_gen : noOne 254 2#8 = true := by decide +kernel
theorem noOne_at (d : Nat) : ∀ x : F, noOne d x = true → ∀ i, i < d → mul x (pow 2#8 i) ≠ 1#8 := by
  induction d with
  | zero => intro x _ i hi; omega
  | succ d ih =>
    intro x h i hi
    unfold noOne at h
    split at h
    · cases h
    · rename_i hx
      cases i with
      | zero => rw [pow, mul_one]; exact hx
      | succ i =>
        have := ih (dbl x) h i (by omega)
        rwa [← dbl_pow, mul_assoc, mul_comm 2#8, ← show pow 2#8 (i + 1) = mul (pow 2#8 i) 2#8 from rfl] at this
theorem gen_one {n : Nat} (h : pow 2#8 n = 1#8) : n % 255 = 0 := by
  have hm := pow_mod (a := 2#8) (by decide) n
  rw [h] at hm
  rcases Nat.eq_zero_or_pos (n % 255) with h0 | h0
  · exact h0
  · exfalso
    have := noOne_at 254 2#8 noOne_gen (n % 255 - 1) (by omega)
    rw [mul_comm, ← show pow 2#8 (n % 255 - 1 + 1) = mul (pow 2#8 (n % 255 - 1)) 2#8 from rfl, Nat.sub_add_cancel h0] at this
    exact this hm
def ordN (l : Nat) : Nat := 255 / Nat.gcd l 255
theorem order_l0 : ∀ l : Nat, l < 255 → gf256_Order.l0 20 (l : Int) 255 = some (((ordN l : Nat) : Int), 0) := by decide +kernel
theorem ord_dvd : ∀ l, l < 255 → 0 < ordN l ∧ ordN l < 256 ∧ 255 % ordN l = 0 ∧ (l * ordN l) % 255 = 0 := by decide +kernel
theorem ord_least : ∀ l, l < 255 → ∀ n, n < ordN l → 0 < n → (l * n) % 255 ≠ 0 := by decide +kernel
theorem Log_I {a : F} (h : a ≠ 0#8) : gf256_Log.f (I a) = some (((lg a : Nat) : Int), 0) := by
  unfold gf256_Log.f
  rw [if_pos (I_range a), Fi_I]
  exact if_pos (lg_lt h)
theorem Log_0 : gf256_Log.f 0 = some (0, 1) := by
  unfold gf256_Log.f
  rw [if_pos (by decide), if_neg]
  intro h
  have := logN_hit (Fi 0) 255 0 (by omega)
  exact pow_ne (a := 2#8) (by decide) _ (this.trans (by decide))
theorem Order_ev {a : F} (h : a ≠ 0#8) : Ev (fun k => gf256_Order.f k (I a)) (((ordN (lg a) : Nat) : Int), 0) := by
  unfold gf256_Order.f
  simp only [Log_I h, Option.bind_some, if_true]
  exact Ev.of (fun k => gf256_Order.mono_l k _ _) (order_l0 (lg a) (lg_lt h))
theorem Order_0 : Ev (fun k => gf256_Order.f k 0) ((0 : Int), (1 : Int)) := by
  unfold gf256_Order.f
  simp only [Log_0, Option.bind_some, if_neg (show ¬ (1 : Int) = 0 by decide)]
  exact Ev.now _
theorem pow_ord {a : F} (h : a ≠ 0#8) : pow a (ordN (lg a)) = 1#8 := by
  have e := (ord_dvd (lg a) (lg_lt h)).2.2.2
  have h1 : pow (pow 2#8 (lg a)) (ordN (lg a)) = 1#8 := by
    rw [pow_mul, ← pow_mod (by decide), e]
    rfl
  rwa [pow_lg h] at h1
theorem pow_below_ord {a : F} (h : a ≠ 0#8) {n : Nat} (h0 : 0 < n) (hn : n < ordN (lg a)) : pow a n ≠ 1#8 := by
  intro he
  have h1 : pow (pow 2#8 (lg a)) n = 1#8 := by rw [pow_lg h]; exact he
  rw [pow_mul] at h1
  exact ord_least (lg a) (lg_lt h) n hn h0 (gen_one h1)
/-! The reference -/
theorem rPow_l0_ev (a : F) (n : Nat) : ∀ t : Nat, n < 1000 → Ev (fun k => kinkeepref02_Pow.l0 k (I a) (n : Int) (I (pow a t))) (I (pow a (t + n))) := by
  induction n with
  | zero =>
    intro t _
    refine Ev.step (fun k => kinkeepref02_Pow.l0.eq_2 _ _ _ _) ?_
    simp only [if_neg (show ¬ (((0 : Nat) : Int) > 0) by decide)]
    exact Ev.now _
  | succ n ih =>
    intro t hn
    refine Ev.step (fun k => kinkeepref02_Pow.l0.eq_2 _ _ _ _) ?_
    simp only [if_pos (show ((n + 1 : Nat) : Int) > 0 by omega), show wrap64 (((n + 1 : Nat) : Int) - 1) = (n : Int) by unfold wrap64; omega]
    refine Ev.bind (rMul_ev _ _) ?_
    have := ih (t + 1) (by omega)
    rw [show t + 1 + n = t + (n + 1) by omega] at this
    exact this
theorem tmod_red (n : Int) : Int.tmod (wrap64 (Int.tmod n 255 + 255)) 255 = (red n : Int) := by
  unfold red
  rcases Int.le_total 0 n with h0 | h0
  · rw [Int.tmod_eq_emod_of_nonneg h0]
    have hw : wrap64 (n % 255 + 255) = n % 255 + 255 := by unfold wrap64; omega
    rw [hw, Int.tmod_eq_emod_of_nonneg (by omega)]
    omega
  · obtain ⟨m, rfl⟩ : ∃ m : Int, n = -m := ⟨-n, by omega⟩
    have h1 : Int.tmod (-m) 255 = -(m % 255) := by rw [Int.neg_tmod, Int.tmod_eq_emod_of_nonneg (by omega)]
    have hw : wrap64 (-(m % 255) + 255) = -(m % 255) + 255 := by unfold wrap64; omega
    rw [h1, hw, Int.tmod_eq_emod_of_nonneg (by omega)]
    omega
theorem rPow_ev {a : F} (h : a ≠ 0#8) (n : Int) : Ev (fun k => kinkeepref02_Pow.f k (I a) n) (I (pow a (red n))) := by
  unfold kinkeepref02_Pow.f
  simp only [if_neg (show ¬ I a = 0 from fun h' => h (I_eq_zero.1 h')), tmod_red]
  have := rPow_l0_ev a (red n) 0 (by have := red_lt n; omega)
  rw [Nat.zero_add] at this
  exact this
theorem rPow0_ev (n : Int) : Ev (fun k => kinkeepref02_Pow.f k 0 n) (if n = 0 then (1 : Int) else 0) := by
  unfold kinkeepref02_Pow.f
  by_cases h : n = 0
  · simp only [if_true, if_pos h]
    exact Ev.now _
  · simp only [if_true, if_neg h]
    exact Ev.now _
theorem rLog_l0_ev {a : F} (h : a ≠ 0#8) (d : Nat) : ∀ j, j + d = lg a → Ev (fun k => kinkeepref02_Log.l0 k (I a) (j : Int) (I (pow 2#8 j))) ((lg a : Nat) : Int) := by
  induction d with
  | zero =>
    intro j hj
    obtain rfl : j = lg a := by omega
    refine Ev.step (fun k => kinkeepref02_Log.l0.eq_2 _ _ _ _) ?_
    simp only [pow_lg h, if_true]
    exact Ev.now _
  | succ d ih =>
    intro j hj
    have hl := lg_lt h
    refine Ev.step (fun k => kinkeepref02_Log.l0.eq_2 _ _ _ _) ?_
    simp only [if_neg (show ¬ I (pow 2#8 j) = I a from fun e => logN_first a 255 0 j (by omega) (by unfold lg at hj; omega) (I_inj.1 e)), wrap_up (show j < 255 by omega) (by decide)]
    have m := rMul_ev (pow 2#8 j) 2#8
    rw [show I 2#8 = 2 from rfl] at m
    refine Ev.bind m ?_
    exact ih (j + 1) (by omega)
theorem rLog_ev {a : F} (h : a ≠ 0#8) : Ev (fun k => kinkeepref02_Log.f k (I a)) ((lg a : Nat) : Int) := by
  have := rLog_l0_ev h (lg a) 0 (by omega)
  exact this
theorem rOrder_l0_ev {a : F} (h : a ≠ 0#8) (d : Nat) : ∀ j, 0 < j → j + d = ordN (lg a) → Ev (fun k => kinkeepref02_Order.l0 k (I a) (j : Int) (I (pow a j))) ((ordN (lg a) : Nat) : Int) := by
  have ho := (ord_dvd (lg a) (lg_lt h)).2.1
  induction d with
  | zero =>
    intro j _ hj
    obtain rfl : j = ordN (lg a) := by omega
    refine Ev.step (fun k => kinkeepref02_Order.l0.eq_2 _ _ _ _) ?_
    simp only [pow_ord h, I_one, if_true]
    exact Ev.now _
  | succ d ih =>
    intro j h0 hj
    refine Ev.step (fun k => kinkeepref02_Order.l0.eq_2 _ _ _ _) ?_
    simp only [if_neg (show ¬ I (pow a j) = 1 from fun e => pow_below_ord h h0 (by omega) (I_eq_one.1 e)), wrap_up (show j < 255 by omega) (by decide)]
    refine Ev.bind (rMul_ev (pow a j) a) ?_
    exact ih (j + 1) (by omega) (by omega)
theorem rOrder_ev {a : F} (h : a ≠ 0#8) : Ev (fun k => kinkeepref02_Order.f k (I a)) ((ordN (lg a) : Nat) : Int) := by
  have hd := (ord_dvd (lg a) (lg_lt h)).1
  have := rOrder_l0_ev h (ordN (lg a) - 1) 1 (by decide) (by omega)
  rw [show pow a 1 = a from one_mul a] at this
  exact this
theorem p256 (a : F) : pow a 256 = a := by
  by_cases h : a = 0#8
  · subst h
    exact mul_zero _
  · show mul (pow a 255) a = a
    rw [pow_255 h, one_mul]
theorem rSqrt_l0_ev (a : F) (d : Nat) : ∀ i, i + d = 256 → Ev (fun k => kinkeepref02_Sqrt.l0 k (I a) (i : Int)) (I (scan (fun b => mul b b == a) d i)) := by
  induction d with
  | zero =>
    intro i h
    refine Ev.step (fun k => kinkeepref02_Sqrt.l0.eq_2 _ _ _) ?_
    simp only [if_neg (show ¬ (i : Int) < 256 by omega)]
    exact Ev.now _
  | succ d ih =>
    intro i h
    refine Ev.step (fun k => kinkeepref02_Sqrt.l0.eq_2 _ _ _) ?_
    simp only [if_pos (show (i : Int) < 256 by omega), byte_I i]
    refine Ev.bind (rMul_ev _ _) ?_
    simp only [I_inj, scan, beq_iff_eq]
    by_cases hm : mul (BitVec.ofNat 8 i) (BitVec.ofNat 8 i) = a
    · simp only [if_pos hm]
      exact Ev.now _
    · simp only [if_neg hm, wrap_up (show i < 256 by omega) (by decide)]
      exact ih (i + 1) (by omega)
theorem rSqrt_ev (a : F) : Ev (fun k => kinkeepref02_Sqrt.f k (I a)) (I (pow a 128)) := by
  have := rSqrt_l0_ev a 256 0 (by decide)
  rw [scan_eq (fun b => mul b b == a) (pow a 128) (by rw [beq_iff_eq, ← pow_add]; exact p256 a) (fun y hy => by
    rw [beq_iff_eq] at hy
    rw [← hy, pow_sq]
    exact (p256 y).symm) 256 0 (by omega) (by have := (pow a 128).isLt; omega)] at this
  exact this
end Go.Proofs.Ytaagfllcfkjkgaa.PG
