/- The plain law of the register: it is linear; a matrix of powers is a run over noughts. -/
import Derived.Test.YtigepklbphmkfaaCrcC
import Derived.Test.YtigepklbphmkfaaCrcD
namespace Go.Proofs.Ytigepklbphmkfaa

theorem sh_xor (a b : Nat) : sh (a ^^^ b) = sh a ^^^ sh b := by
  unfold sh
  rw [Nat.xor_div_two]
  by_cases ha : a % 2 = 1 <;> by_cases hb : b % 2 = 1 <;> simp only [Nat.xor_mod_two_eq_one, ha, hb, not_true_eq_false, not_false_eq_true, iff_false, false_iff, if_true, if_false]
  · rw [Nat.xor_assoc, Nat.xor_comm 3988292384, Nat.xor_assoc (b / 2), Nat.xor_self, Nat.xor_zero]
  · rw [Nat.xor_assoc, Nat.xor_comm (b / 2), ← Nat.xor_assoc]
  · rw [← Nat.xor_assoc]
theorem sh_zero : sh 0 = 0 := rfl
theorem shN_xor (k a b : Nat) : shN k (a ^^^ b) = shN k a ^^^ shN k b := by
  induction k generalizing a b with
  | zero => rfl
  | succ k ih => simp only [shN]; rw [sh_xor, ih]
theorem shN_nil (k : Nat) : shN k 0 = 0 := by
  induction k with
  | zero => rfl
  | succ k ih => simp only [shN]; rw [sh_zero, ih]
theorem shN_add (j k r : Nat) : shN (j + k) r = shN j (shN k r) := by
  induction k generalizing r with
  | zero => rfl
  | succ k ih => exact ih (sh r)

theorem bit_up (r k : Nat) : r % 2 ^ (k + 1) = (r % 2 ^ k) ^^^ (if r / 2 ^ k % 2 = 1 then 2 ^ k else 0) := by
  have hb : r.testBit k = decide (r / 2 ^ k % 2 = 1) := Nat.testBit_eq_decide_div_mod_eq
  apply Nat.eq_of_testBit_eq
  intro i
  rw [Nat.testBit_xor, Nat.testBit_mod_two_pow, Nat.testBit_mod_two_pow]
  by_cases h : r / 2 ^ k % 2 = 1
  · rw [if_pos h, Nat.testBit_two_pow]
    rcases Nat.lt_trichotomy i k with h1 | h1 | h1
    · simp [h1, show i < k + 1 by omega, show ¬ k = i by omega]
    · subst h1; simp [hb, h]
    · simp [show ¬ i < k by omega, show ¬ i < k + 1 by omega, show ¬ k = i by omega]
  · rw [if_neg h, Nat.zero_testBit, Bool.xor_false]
    rcases Nat.lt_trichotomy i k with h1 | h1 | h1
    · simp [h1, show i < k + 1 by omega]
    · subst h1; simp [hb, h]
    · simp [show ¬ i < k by omega, show ¬ i < k + 1 by omega]

/-- The matrix of k shifts. -/
def pw (k : Nat) : Nat → Nat := fun i => shN k (2 ^ i)
theorem app_pw (k r j : Nat) : app (pw k) r j = shN k (r % 2 ^ j) := by
  induction j with
  | zero => simp [app, Nat.mod_one, shN_nil]
  | succ j ih =>
    rw [app, ih, bit_up, shN_xor]
    congr 1
    unfold pick pw
    by_cases h : r / 2 ^ j % 2 = 1
    · rw [if_pos h, if_pos h]
    · rw [if_neg h, if_neg h, shN_nil]
theorem app_pw32 (k r : Nat) (h : r < 4294967296) : app (pw k) r 32 = shN k r := by
  rw [app_pw, Nat.mod_eq_of_lt h]
theorem app_congr {M N : Nat → Nat} (r j : Nat) (h : ∀ i, i < j → M i = N i) : app M r j = app N r j := by
  induction j with
  | zero => rfl
  | succ j ih =>
    rw [app, app, ih fun i hi => h i (by omega)]
    unfold pick
    rw [h j (by omega)]
theorem two_pw (k i : Nat) (h : i < 32) : two (pw k) i = pw (k + k) i := by
  show app (pw k) (shN k (2 ^ i)) 32 = _
  rw [app_pw32 k _ (shN_lt (pow_lt i h))]
  exact (shN_add k k (2 ^ i)).symm
theorem jl_congr (n : Nat) : ∀ (M N : Nat → Nat) (r : Nat), (∀ i, i < 32 → M i = N i) → jl n M r = jl n N r := by
  induction n using Nat.strongRecOn with
  | _ n ih =>
    intro M N r h
    have h2 : ∀ i, i < 32 → two M i = two N i := fun i hi => by
      unfold two
      rw [h i hi]
      exact app_congr _ _ h
    by_cases h0 : n = 0
    · subst h0; rw [jl_zero, jl_zero]
    · by_cases ho : n % 2 = 1
      · rw [jl_odd M r ho, jl_odd N r ho, app_congr r 32 h]; exact ih _ (by omega) _ _ _ h2
      · rw [jl_even M r h0 ho, jl_even N r h0 ho]; exact ih _ (by omega) _ _ _ h2
theorem jl_pw (n : Nat) : ∀ (k r : Nat), r < 4294967296 → jl n (pw k) r = shN (k * n) r := by
  induction n using Nat.strongRecOn with
  | _ n ih =>
    intro k r hr
    by_cases h0 : n = 0
    · subst h0; rw [jl_zero]; rfl
    · by_cases ho : n % 2 = 1
      · rw [jl_odd _ r ho, app_pw32 k r hr, jl_congr _ _ (pw (k + k)) _ (fun i hi => two_pw k i hi), ih _ (by omega) _ _ (shN_lt hr), ← shN_add]
        congr 1
        rw [← Nat.two_mul, Nat.mul_comm 2 k, Nat.mul_assoc]
        have : n = 2 * (n / 2) + 1 := by omega
        conv => rhs; rw [this]
        rw [Nat.mul_add, Nat.mul_one]
      · rw [jl_even _ r h0 ho, jl_congr _ _ (pw (k + k)) _ (fun i hi => two_pw k i hi), ih _ (by omega) _ _ hr]
        congr 1
        rw [← Nat.two_mul, Nat.mul_comm 2 k, Nat.mul_assoc]
        congr 1
        omega
theorem jl_zeroM (n r : Nat) (h : r < 4294967296) : jl n zeroM r = shN (8 * n) r := jl_pw n 8 r h

theorem addB_xor (r s c : Nat) : addB (r ^^^ s) c = addB r c ^^^ shN 8 s := by
  unfold addB
  rw [Nat.xor_assoc, Nat.xor_comm s c, ← Nat.xor_assoc, shN_xor]
theorem addL_xor (l : List Nat) : ∀ r s, addL (r ^^^ s) l = addL r l ^^^ shN (8 * l.length) s := by
  induction l with
  | nil => intro r s; rfl
  | cons c l ih =>
    intro r s
    show addL (addB (r ^^^ s) c) l = addL (addB r c) l ^^^ _
    rw [addB_xor, ih, ← shN_add]
    congr 2

theorem addL_append (r : Nat) (a b : List Nat) : addL r (a ++ b) = addL (addL r a) b := by simp [addL]
theorem sumOf_eq (l : List Nat) (hl : ∀ x ∈ l, x < 256) : sumOf l = 4294967295 ^^^ addL 4294967295 l := (xor_ones (addL_lt (by omega) hl)).symm
theorem addL_eq (l : List Nat) (hl : ∀ x ∈ l, x < 256) : addL 4294967295 l = 4294967295 ^^^ sumOf l := by
  rw [sumOf_eq l hl, ← Nat.xor_assoc, Nat.xor_self, Nat.zero_xor]

/-- The sum of two texts, of theirs. -/
theorem join_law (a b : List Nat) (ha : ∀ x ∈ a, x < 256) (hb : ∀ x ∈ b, x < 256) : jl b.length zeroM (sumOf a) ^^^ sumOf b = sumOf (a ++ b) := by
  have hab : ∀ x ∈ a ++ b, x < 256 := fun x hx => (List.mem_append.1 hx).elim (ha x) (hb x)
  rw [jl_zeroM _ _ (sumOf_lt a), sumOf_eq (a ++ b) hab, addL_append, addL_eq a ha, addL_xor, sumOf_eq b hb, Nat.xor_comm, Nat.xor_assoc]
theorem alive_sum : sumOf [49, 50, 51, 52, 53, 54, 55, 56, 57] = 3421780262 := by decide +kernel
end Go.Proofs.Ytigepklbphmkfaa
