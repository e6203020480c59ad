/- The plain law of the document's register: bit by bit it is the number's. -/
import Derived.Test.YtigepklbphmkfaaRefB
namespace Go.Proofs.Ytigepklbphmkfaa

theorem mod2_xor (a b : Nat) : (a ^^^ b) % 2 = (a % 2 + b % 2) % 2 := by
  have h := Nat.xor_mod_two_pow (a := a) (b := b) (n := 1)
  rw [Nat.pow_one] at h
  rw [h]
  rcases Nat.mod_two_eq_zero_or_one a with ha | ha <;> rcases Nat.mod_two_eq_zero_or_one b with hb | hb <;> rw [ha, hb] <;> rfl
theorem bitsOf_xor (a b i : Nat) : bitsOf (a ^^^ b) i = (bitsOf a i + bitsOf b i) % 2 := by
  unfold bitsOf
  rw [Nat.xor_div_two_pow, mod2_xor]
theorem inF_bitsOf (r bit : Nat) (hr : r < 4294967296) (hb : bit ≤ 1) (i : Nat) (hi : i < 32) : inF (bitsOf r) bit i = bitsOf (sh (r ^^^ bit)) i := by
  have hl : low (bitsOf r) 31 i = bitsOf (r / 2) i := by
    unfold low bitsOf
    rw [Nat.div_div_eq_div_mul, Nat.mul_comm, ← Nat.pow_succ]
    by_cases h : i < 31
    · rw [if_pos h]
    · rw [if_neg h, show i = 31 by omega, Nat.div_eq_of_lt hr]
  have ht : told (bitsOf r) bit = (r ^^^ bit) % 2 := by
    rw [mod2_xor]
    unfold told bitsOf
    simp
  have h2 : (r ^^^ bit) / 2 = r / 2 := by rw [Nat.xor_div_two, show bit / 2 = 0 by omega, Nat.xor_zero]
  unfold inF flip sh
  rw [hl, ht, h2]
  by_cases h1 : (r ^^^ bit) % 2 = 1
  · rw [if_pos h1, bitsOf_xor]
    have hx : bitsOf (r / 2) i ≤ 1 := bitsOf_bits _ _ hi
    have hy : bitsOf 3988292384 i = 3988292384 / 2 ^ i % 2 := rfl
    rw [hy]
    by_cases h3 : 3988292384 / 2 ^ i % 2 = 1
    · rw [if_pos ⟨hi, h1, h3⟩, h3]; omega
    · rw [if_neg (fun h => h3 h.2.2), show 3988292384 / 2 ^ i % 2 = 0 by omega]; omega
  · rw [if_neg h1, if_neg (fun h => h1 h.2.1)]

theorem inF_congr {f g : Nat → Nat} (b : Nat) (h : ∀ i, i < 32 → f i = g i) (i : Nat) (hi : i < 32) : inF f b i = inF g b i := by
  have hl : low f 31 i = low g 31 i := by
    unfold low
    split
    · exact h _ (by omega)
    · rfl
  unfold inF flip told
  rw [hl, h 0 (by omega)]

def stepN (r c : Nat) : Nat → Nat
  | 0 => r
  | k + 1 => sh (stepN r c k ^^^ (c / 2 ^ k % 2))
theorem stepN_lt (r c k : Nat) (hr : r < 4294967296) : stepN r c k < 4294967296 := by
  induction k with
  | zero => exact hr
  | succ k ih => exact sh_lt (Nat.xor_lt_two_pow (n := 32) ih (by omega))
theorem inN_stepN (r c k : Nat) (hr : r < 4294967296) : ∀ i, i < 32 → inN (bitsOf r) c k i = bitsOf (stepN r c k) i := by
  induction k with
  | zero => intro i _; rfl
  | succ k ih =>
    intro i hi
    show inF (inN (bitsOf r) c k) (c / 2 ^ k % 2) i = _
    rw [inF_congr _ ih i hi, inF_bitsOf _ _ (stepN_lt r c k hr) (by omega) i hi]
    rfl
theorem sh_two (y : Nat) : sh (2 * y) = y := by
  unfold sh
  rw [if_neg (by omega)]
  omega
theorem parts (d : Nat) : d = (d % 2) ^^^ (2 * (d / 2)) := by
  have h1 : ((d % 2) ^^^ (2 * (d / 2))) / 2 = d / 2 := by
    rw [Nat.xor_div_two, show d % 2 / 2 = 0 by omega, show 2 * (d / 2) / 2 = d / 2 by omega, Nat.zero_xor]
  have h2 : ((d % 2) ^^^ (2 * (d / 2))) % 2 = d % 2 := by rw [mod2_xor]; omega
  omega
theorem stepN_shN (r c k : Nat) : stepN r c k ^^^ (c / 2 ^ k) = shN k (r ^^^ c) := by
  induction k with
  | zero => simp [stepN, shN]
  | succ k ih =>
    rw [shN_succ, ← ih]
    have hd : c / 2 ^ (k + 1) = c / 2 ^ k / 2 := by rw [Nat.pow_succ, Nat.div_div_eq_div_mul]
    rw [hd]
    show sh (stepN r c k ^^^ (c / 2 ^ k % 2)) ^^^ _ = _
    conv => rhs; rw [parts (c / 2 ^ k)]
    rw [← Nat.xor_assoc, sh_xor (stepN r c k ^^^ (c / 2 ^ k % 2)), sh_two]
theorem inN_bitsOf (r c : Nat) (hr : r < 4294967296) (hc : c < 256) (i : Nat) (hi : i < 32) : inN (bitsOf r) c 8 i = bitsOf (addB r c) i := by
  rw [inN_stepN r c 8 hr i hi]
  have h := stepN_shN r c 8
  rw [show c / 2 ^ 8 = 0 by omega, Nat.xor_zero] at h
  rw [h]
  rfl
theorem inN_congr {f g : Nat → Nat} (c k : Nat) (h : ∀ i, i < 32 → f i = g i) : ∀ i, i < 32 → inN f c k i = inN g c k i := by
  induction k with
  | zero => exact h
  | succ k ih => exact fun i hi => inF_congr _ ih i hi
theorem inL_congr (l : List Nat) : ∀ {f g : Nat → Nat}, (∀ i, i < 32 → f i = g i) → ∀ i, i < 32 → inL f l i = inL g l i := by
  induction l with
  | nil => intro f g h; exact h
  | cons c l ih => intro f g h; exact ih (inN_congr c 8 h)
/-- The document's register behind some bytes is the package's, bit by bit. -/
theorem inL_bitsOf (l : List Nat) : ∀ r, r < 4294967296 → (∀ x ∈ l, x < 256) → ∀ i, i < 32 → inL (bitsOf r) l i = bitsOf (addL r l) i := by
  induction l with
  | nil => intro r _ _ i _; rfl
  | cons c l ih =>
    intro r hr hl i hi
    show inL (inN (bitsOf r) c 8) l i = bitsOf (addL (addB r c) l) i
    rw [inL_congr l (fun j hj => inN_bitsOf r c hr (hl c (by simp)) j hj) i hi]
    exact ih _ (addB_lt hr (hl c (by simp))) (fun x hx => hl x (by simp [hx])) i hi
end Go.Proofs.Ytigepklbphmkfaa
