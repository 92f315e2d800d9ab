/- Plain arithmetic of the group modulo 1000000007: powers, the program's and the reference's ways to compute them. -/
import Derived.Test.YthdldmkeoglflaaDoorMem
import Derived.Test.YthdldmkeoglflaaDoorRows
namespace Go.Proofs.YthdldmkeoglflaaDoor
set_option maxRecDepth 100000

/-- The modulus and the order. -/
abbrev gP : Int := 1000000007
abbrev gQ : Int := 500000003

/-- The power modulo m. -/
def gpw (a : Int) (n : Nat) (m : Int) : Int := a ^ n % m

theorem pw_nonneg (a : Int) (n : Nat) (m : Int) (hm : 1 ≤ m) : 0 ≤ gpw a n m := Int.emod_nonneg _ (by omega)
theorem pw_lt (a : Int) (n : Nat) (m : Int) (hm : 1 ≤ m) : gpw a n m < m := Int.emod_lt_of_pos _ (by omega)
theorem pw_zero (a : Int) (m : Int) (hm : 2 ≤ m) : gpw a 0 m = 1 := by
  unfold gpw; rw [Int.pow_zero]; exact Int.emod_eq_of_lt (by omega) (by omega)
theorem pw_one (a : Int) (m : Int) : gpw a 1 m = a % m := by unfold gpw; rw [Int.pow_succ, Int.pow_zero, Int.one_mul]
theorem pw_add (a : Int) (i j : Nat) (m : Int) : gpw a i m * gpw a j m % m = gpw a (i + j) m := by
  unfold gpw; rw [Int.pow_add, Int.mul_emod (a ^ i)]
theorem pw_mul (a : Int) (i j : Nat) (m : Int) : gpw (gpw a i m) j m = gpw a (i * j) m := by
  unfold gpw
  rw [Int.pow_mul]
  generalize a ^ i = x
  induction j with
  | zero => simp
  | succ j ih =>
    rw [Int.pow_succ, Int.pow_succ, Int.mul_emod, ih, Int.emod_emod, ← Int.mul_emod]
theorem pw_mod (a : Int) (j : Nat) (m : Int) : gpw (a % m) j m = gpw a j m := by
  have := pw_mul a 1 j m
  rw [pw_one] at this; rw [this, Nat.one_mul]
theorem pw_base_mul (a b : Int) (j : Nat) (m : Int) : gpw (a * b) j m = gpw a j m * gpw b j m % m := by
  unfold gpw
  rw [Int.mul_pow, Int.mul_emod]
theorem pw_self_mod (a : Int) (j : Nat) (m : Int) (_ : 1 ≤ m) : gpw a j m % m = gpw a j m := by
  unfold gpw; rw [Int.emod_emod]
theorem pw_one_base (j : Nat) (m : Int) (hm : 2 ≤ m) : gpw 1 j m = 1 := by
  unfold gpw; rw [Int.one_pow]; exact Int.emod_eq_of_lt (by omega) (by omega)

/-- The exponent's remainder by the order suffices. -/
theorem pw_rem (a : Int) (n q : Nat) (m : Int) (hm : 2 ≤ m) (h : gpw a q m = 1) : gpw a (n % q) m = gpw a n m := by
  have e : n = q * (n / q) + n % q := (Nat.div_add_mod n q).symm
  conv => rhs; rw [e]
  rw [← pw_add, ← pw_mul, h, pw_one_base _ _ hm, Int.one_mul, pw_self_mod _ _ _ (by omega)]

/-! How to compute it in the kernel: from the lowest digit on, with fuel. -/
def pwF : Nat → Nat → Nat → Nat → Nat → Nat
  | 0, _, _, _, out => out
  | f + 1, a, n, m, out => if n = 0 then out else pwF f (a * a % m) (n / 2) m (if n % 2 = 1 then out * a % m else out)

theorem pwF_eq (m : Nat) (hm : 2 ≤ m) : ∀ (f a n out : Nat), n < 2 ^ f → out < m → (pwF f a n m out : Int) = out * (a : Int) ^ n % m := by
  intro f
  induction f with
  | zero =>
    intro a n out hn ho
    have : n = 0 := by simp at hn; exact hn
    subst this
    simp only [pwF, Int.pow_zero, Int.mul_one]
    rw [Int.emod_eq_of_lt (by omega) (by omega)]
  | succ f ih =>
    intro a n out hn ho
    simp only [pwF]
    by_cases h0 : n = 0
    · subst h0
      simp only [if_true, Int.pow_zero, Int.mul_one]
      rw [Int.emod_eq_of_lt (by omega) (by omega)]
    · rw [if_neg h0]
      have hn2 : n / 2 < 2 ^ f := by rw [Nat.pow_succ] at hn; omega
      have hsq : ((a * a % m : Nat) : Int) ^ (n / 2) % m = (a : Int) ^ (2 * (n / 2)) % m := by
        have := pw_mod ((a : Int) * a) (n / 2) m
        unfold gpw at this
        rw [Int.natCast_emod, Int.natCast_mul, this, Int.pow_mul]
        congr 2
        rw [Int.pow_succ, Int.pow_succ, Int.pow_zero, Int.one_mul]
      by_cases h1 : n % 2 = 1
      · rw [if_pos h1, ih _ _ _ hn2 (Nat.mod_lt _ (by omega))]
        have e : n = 2 * (n / 2) + 1 := by omega
        conv => rhs; rw [e]
        rw [Int.pow_succ, Int.natCast_emod, Int.natCast_mul, Int.mul_emod, Int.emod_emod, hsq, ← Int.mul_emod]
        congr 1
        rw [Int.mul_assoc, Int.mul_comm (a : Int)]
      · rw [if_neg h1, ih _ _ _ hn2 ho]
        have e : n = 2 * (n / 2) := by omega
        conv => rhs; rw [e]
        rw [Int.mul_emod, hsq, ← Int.mul_emod]

/-- A power, reckoned. -/
def pwC (a n m : Nat) : Nat := pwF 64 a n m 1
theorem pwC_eq (a n m : Nat) (hm : 2 ≤ m) (hn : n < 18446744073709551616) : gpw (a : Int) n (m : Int) = (pwC a n m : Int) := by
  unfold pwC
  rw [pwF_eq m hm 64 a n 1 (by omega) (by omega)]
  simp [gpw]

/-- The first k binary digits of a number of 64 digits. -/
theorem top_step (n k : Nat) (_hn : n < 18446744073709551616) (hk : k < 64) : n / 2 ^ (64 - (k + 1)) = 2 * (n / 2 ^ (64 - k)) + n / 2 ^ (63 - k) % 2 := by
  have e : 64 - (k + 1) = 63 - k := by omega
  have e2 : 64 - k = (63 - k) + 1 := by omega
  rw [e, e2, Nat.pow_succ, ← Nat.div_div_eq_div_mul]
  omega

end Go.Proofs.YthdldmkeoglflaaDoor
