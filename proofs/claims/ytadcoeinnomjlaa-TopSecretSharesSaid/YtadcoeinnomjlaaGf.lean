/- The field of 256 elements as BitVec 8: a plain law, no program in sight. -/
namespace Go.Proofs.Ytadcoeinnomjlaa.Gf
abbrev F := BitVec 8
def dbl (a : F) : F := if a.getLsbD 7 then (a <<< 1) ^^^ 29#8 else a <<< 1
/-- The product of a and the lowest n bits of b. -/
def mulB : Nat → F → Nat → F
  | 0, _, _ => 0#8
  | n + 1, a, b => (if b % 2 = 1 then a else 0#8) ^^^ mulB n (dbl a) (b / 2)
def mul (a b : F) : F := mulB 8 a b.toNat

theorem xor4 (a b c d : F) : (a ^^^ b) ^^^ (c ^^^ d) = (a ^^^ c) ^^^ (b ^^^ d) := by ac_rfl
theorem dbl_add (a b : F) : dbl (a ^^^ b) = dbl a ^^^ dbl b := by
  unfold dbl
  rw [BitVec.getLsbD_xor, BitVec.shiftLeft_xor_distrib]
  cases a.getLsbD 7 <;> cases b.getLsbD 7 <;> simp
  · ac_rfl
  · ac_rfl
  · rw [xor4]; simp
theorem mulB_add_left (n : Nat) : ∀ (a a' : F) (b : Nat), mulB n (a ^^^ a') b = mulB n a b ^^^ mulB n a' b := by
  induction n with
  | zero => intros; simp [mulB]
  | succ n ih =>
    intro a a' b
    simp only [mulB, dbl_add, ih]
    rw [xor4 _ (mulB n (dbl a) (b / 2))]
    split <;> simp
theorem mulB_add_right (n : Nat) : ∀ (a : F) (b b' : Nat), mulB n a (b ^^^ b') = mulB n a b ^^^ mulB n a b' := by
  induction n with
  | zero => intros; simp [mulB]
  | succ n ih =>
    intro a b b'
    simp only [mulB]
    rw [Nat.xor_div_two, ih, xor4 _ (mulB n (dbl a) (b / 2))]
    congr 1
    have key : ((b ^^^ b') % 2 = 1) ↔ ¬((b % 2 = 1) ↔ (b' % 2 = 1)) := Nat.xor_mod_two_eq_one
    by_cases h : b % 2 = 1 <;> by_cases h' : b' % 2 = 1
    · rw [if_neg (fun h2 => by rw [key] at h2; exact h2 (by simp [h, h'])), if_pos h, if_pos h']; simp
    · rw [if_pos (key.2 (by simp [h, h'])), if_pos h, if_neg h']; simp
    · rw [if_pos (key.2 (by simp [h, h'])), if_neg h, if_pos h']; simp
    · rw [if_neg (fun h2 => by rw [key] at h2; exact h2 (by simp [h, h'])), if_neg h, if_neg h']; simp
theorem mul_add_left (a a' b : F) : mul (a ^^^ a') b = mul a b ^^^ mul a' b := mulB_add_left ..
theorem mul_add_right (a b b' : F) : mul a (b ^^^ b') = mul a b ^^^ mul a b' := by
  unfold mul; rw [BitVec.toNat_xor]; exact mulB_add_right ..
theorem mul_zero (a : F) : mul a 0#8 = 0#8 := by
  have := mul_add_right a 0#8 0#8
  simpa using this
theorem zero_mul (a : F) : mul 0#8 a = 0#8 := by
  have := mul_add_left 0#8 0#8 a
  simpa using this

def bas (x : F) (i : Nat) : F := if x.getLsbD i then BitVec.ofNat 8 (2 ^ i) else 0#8
theorem spell : ∀ x : F, x = bas x 0 ^^^ (bas x 1 ^^^ (bas x 2 ^^^ (bas x 3 ^^^ (bas x 4 ^^^ (bas x 5 ^^^ (bas x 6 ^^^ bas x 7)))))) := by decide +kernel
theorem ind (P : F → Prop) (h0 : P 0#8) (h1 : ∀ i, i < 8 → P (BitVec.ofNat 8 (2 ^ i))) (h2 : ∀ x y, P x → P y → P (x ^^^ y)) (x : F) : P x := by
  have hb : ∀ i, i < 8 → P (bas x i) := fun i hi => by
    unfold bas
    split
    · exact h1 i hi
    · exact h0
  rw [spell x]
  exact h2 _ _ (hb 0 (by omega)) (h2 _ _ (hb 1 (by omega)) (h2 _ _ (hb 2 (by omega)) (h2 _ _ (hb 3 (by omega)) (h2 _ _ (hb 4 (by omega)) (h2 _ _ (hb 5 (by omega)) (h2 _ _ (hb 6 (by omega)) (hb 7 (by omega))))))))
theorem comm0 : ∀ i, i < 8 → ∀ j, j < 8 → mul (BitVec.ofNat 8 (2 ^ i)) (BitVec.ofNat 8 (2 ^ j)) = mul (BitVec.ofNat 8 (2 ^ j)) (BitVec.ofNat 8 (2 ^ i)) := by decide +kernel
theorem assoc0 : ∀ i, i < 8 → ∀ j, j < 8 → ∀ k, k < 8 → mul (mul (BitVec.ofNat 8 (2 ^ i)) (BitVec.ofNat 8 (2 ^ j))) (BitVec.ofNat 8 (2 ^ k)) = mul (BitVec.ofNat 8 (2 ^ i)) (mul (BitVec.ofNat 8 (2 ^ j)) (BitVec.ofNat 8 (2 ^ k))) := by decide +kernel
theorem mul_comm (a b : F) : mul a b = mul b a := by
  refine ind (fun a => mul a b = mul b a) (by rw [zero_mul, mul_zero]) (fun i hi => ?_) (fun x y hx hy => by rw [mul_add_left, mul_add_right, hx, hy]) a
  exact ind (fun b => mul _ b = mul b _) (by rw [zero_mul, mul_zero]) (fun j hj => comm0 i hi j hj) (fun x y hx hy => by rw [mul_add_left, mul_add_right, hx, hy]) b
theorem mul_assoc (a b c : F) : mul (mul a b) c = mul a (mul b c) := by
  refine ind (fun a => mul (mul a b) c = mul a (mul b c)) (by simp only [zero_mul]) (fun i hi => ?_) (fun x y hx hy => by simp only [mul_add_left, hx, hy]) a
  refine ind (fun b => mul (mul _ b) c = mul _ (mul b c)) (by simp only [zero_mul, mul_zero]) (fun j hj => ?_) (fun x y hx hy => by simp only [mul_add_left, mul_add_right, hx, hy]) b
  exact ind (fun c => mul (mul _ _) c = mul _ (mul _ c)) (by simp only [mul_zero]) (fun k hk => assoc0 i hi j hj k hk) (fun x y hx hy => by simp only [mul_add_right, hx, hy]) c
theorem mul_one : ∀ a : F, mul a 1#8 = a := by decide +kernel
theorem one_mul (a : F) : mul 1#8 a = a := by rw [mul_comm, mul_one]

/-! powers -/
def pow (a : F) : Nat → F
  | 0 => 1#8
  | n + 1 => mul (pow a n) a
theorem pow_add (a : F) (m n : Nat) : pow a (m + n) = mul (pow a m) (pow a n) := by
  induction n with
  | zero => simp [pow, mul_one]
  | succ n ih => rw [← Nat.add_assoc, pow, ih, pow, mul_assoc]
theorem mul_mul_mul_comm (a b c d : F) : mul (mul a b) (mul c d) = mul (mul a c) (mul b d) := by
  rw [mul_assoc, mul_assoc, ← mul_assoc b, mul_comm b c, mul_assoc c]
theorem pow_mul_base (a b : F) (n : Nat) : pow (mul a b) n = mul (pow a n) (pow b n) := by
  induction n with
  | zero => simp [pow, mul_one]
  | succ n ih => simp only [pow, ih, mul_mul_mul_comm]
theorem pow_sq (a : F) (n : Nat) : pow (mul a a) n = pow a (2 * n) := by rw [pow_mul_base, Nat.two_mul, pow_add]
/-- Square and multiply. -/
def raiseN : Nat → F → Nat → F → F
  | 0, _, _, out => out
  | k + 1, a, n, out => if n = 0 then out else raiseN k (mul a a) (n / 2) (if n % 2 = 1 then mul out a else out)
theorem raiseN_eq (k : Nat) : ∀ (a : F) (n : Nat) (out : F), n < 2 ^ k → raiseN k a n out = mul out (pow a n) := by
  induction k with
  | zero => intro a n out h; have : n = 0 := by simp at h; omega
            subst this; simp [raiseN, pow, mul_one]
  | succ k ih =>
    intro a n out h
    unfold raiseN
    by_cases h0 : n = 0
    · subst h0; simp [pow, mul_one]
    · rw [if_neg h0, ih _ _ _ (by rw [Nat.pow_succ] at h; omega), pow_sq]
      by_cases h1 : n % 2 = 1
      · rw [if_pos h1, mul_assoc, ← show pow a (1 + 2 * (n / 2)) = mul a (pow a (2 * (n / 2))) from by rw [pow_add]; simp [pow, one_mul]]
        congr 2; omega
      · rw [if_neg h1]; congr 2; omega
theorem raise_eq (a : F) (n : Nat) (h : n < 256) : raiseN 8 a n 1#8 = pow a n := by rw [raiseN_eq 8 _ _ _ (by omega), one_mul]
def inv (a : F) : F := raiseN 8 a 254 1#8
theorem inv_ok : ∀ a : F, a ≠ 0#8 → mul a (inv a) = 1#8 := by decide +kernel
theorem mul_eq_zero {a b : F} (h : mul a b = 0#8) : a = 0#8 ∨ b = 0#8 := by
  by_cases ha : a = 0#8
  · exact .inl ha
  · right
    have := congrArg (mul (inv a)) h
    rwa [← mul_assoc, mul_comm (inv a), inv_ok a ha, one_mul, mul_zero] at this
theorem inv_ne {a : F} (ha : a ≠ 0#8) : inv a ≠ 0#8 := fun h => by
  have := inv_ok a ha
  rw [h, mul_zero] at this
  exact absurd this (by decide)
theorem inv_unique {a b : F} (h : mul a b = 1#8) : b = inv a := by
  have ha : a ≠ 0#8 := fun h0 => by rw [h0, zero_mul] at h; exact absurd h (by decide)
  rw [← one_mul b, ← inv_ok a ha, mul_comm a (inv a), mul_assoc, h, mul_one]
end Go.Proofs.Ytadcoeinnomjlaa.Gf
