/- Plain number theory: the modulus and the order are prime, Fermat's little theorem, and what follows for the group. -/
import Derived.Test.YthdldmkeoglflaaDoorGroupPlain
namespace Go.Proofs.YthdldmkeoglflaaDoor
set_option maxRecDepth 100000

/-! ### Trial division -/
def chk (n : Nat) : Nat → Bool
  | 0 => true
  | k + 1 => (n % (k + 2) != 0) && chk n k
theorem chk_no (n : Nat) : ∀ k, chk n k = true → ∀ d, 2 ≤ d → d < k + 2 → n % d ≠ 0 := by
  intro k
  induction k with
  | zero => intro _ d h1 h2; omega
  | succ k ih =>
    intro h d h1 h2
    simp only [chk, Bool.and_eq_true, bne_iff_ne, ne_eq] at h
    by_cases e : d = k + 2
    · subst e; exact h.1
    · exact ih h.2 d h1 (by omega)

/-- Nothing between 1 and n divides n. -/
def Prim (n : Nat) : Prop := 2 ≤ n ∧ ∀ d, 2 ≤ d → d < n → ¬ d ∣ n
theorem prim_of (n k : Nat) (h2 : 2 ≤ n) (hk : n < (k + 2) * (k + 2)) (h : chk n k = true) : Prim n := by
  refine ⟨h2, fun d hd hdn hdv => ?_⟩
  obtain ⟨c, hc⟩ := hdv
  by_cases h3 : d < k + 2
  · exact chk_no n k h d hd h3 (by rw [hc]; exact Nat.mul_mod_right _ _)
  · have hc2 : c < k + 2 := by
      rcases Nat.lt_or_ge c (k + 2) with h4 | h4
      · exact h4
      · have : (k + 2) * (k + 2) ≤ d * c := Nat.mul_le_mul (by omega) h4
        omega
    have hc1 : 2 ≤ c := by
      rcases (show c = 0 ∨ c = 1 ∨ 2 ≤ c from by omega) with e | e | e
      · subst e; simp at hc; omega
      · subst e; simp at hc; omega
      · exact e
    exact chk_no n k h c hc1 hc2 (by rw [hc]; exact Nat.mul_mod_left _ _)
theorem Prim.coprime {p : Nat} (h : Prim p) {k : Nat} (h0 : 0 < k) (h1 : k < p) : Nat.Coprime k p := by
  unfold Nat.Coprime
  have hg1 : Nat.gcd k p ∣ k := Nat.gcd_dvd_left k p
  have hg2 : Nat.gcd k p ∣ p := Nat.gcd_dvd_right k p
  have hg3 : Nat.gcd k p ≤ k := Nat.le_of_dvd h0 hg1
  have hg4 : 0 < Nat.gcd k p := Nat.gcd_pos_of_pos_left _ h0
  rcases (show Nat.gcd k p = 1 ∨ 2 ≤ Nat.gcd k p from by omega) with e | e
  · exact e
  · exact absurd hg2 (h.2 _ e (by omega))
theorem Prim.dvd {p : Nat} (h : Prim p) {k m : Nat} (h0 : 0 < k) (h1 : k < p) (hd : p ∣ k * m) : p ∣ m :=
  Nat.Coprime.dvd_of_dvd_mul_left (h.coprime h0 h1).symm hd

theorem prim_P : Prim 1000000007 := prim_of _ 31622 (by omega) (by omega) (by decide +kernel)
theorem prim_Q : Prim 500000003 := prim_of _ 22360 (by omega) (by omega) (by decide +kernel)

/-! ### Binomial numbers -/
def Ch : Nat → Nat → Nat
  | _, 0 => 1
  | 0, _ + 1 => 0
  | n + 1, k + 1 => Ch n k + Ch n (k + 1)
theorem Ch_zero (n : Nat) : Ch n 0 = 1 := by cases n <;> rfl
theorem Ch_succ (n k : Nat) : Ch (n + 1) (k + 1) = Ch n k + Ch n (k + 1) := rfl
theorem Ch_big (n : Nat) : ∀ k, n < k → Ch n k = 0 := by
  induction n with
  | zero => intro k hk; match k, hk with | k + 1, _ => rfl
  | succ n ih => intro k hk; match k, hk with | k + 1, hk => rw [Ch_succ, ih k (by omega), ih (k + 1) (by omega)]
theorem Ch_self (n : Nat) : Ch n n = 1 := by
  induction n with
  | zero => rfl
  | succ n ih => rw [Ch_succ, ih, Ch_big n (n + 1) (by omega)]
theorem Ch_mul (n : Nat) : ∀ k, (k + 1) * Ch (n + 1) (k + 1) = (n + 1) * Ch n k := by
  induction n with
  | zero =>
    intro k
    match k with
    | 0 => rfl
    | k + 1 => rw [Ch_big 1 (k + 1 + 1) (by omega), Ch_big 0 (k + 1) (by omega)]; simp
  | succ n ih =>
    intro k
    match k with
    | 0 =>
      have := ih 0
      rw [Ch_succ, Ch_zero]
      rw [Ch_zero] at this
      omega
    | k + 1 =>
      have h1 := ih k
      have h2 := ih (k + 1)
      rw [Ch_succ (n + 1) (k + 1), Nat.mul_add, h2]
      have h3 : (k + 1 + 1) * Ch (n + 1) (k + 1) = Ch (n + 1) (k + 1) + (n + 1) * Ch n k := by
        rw [Nat.add_mul, h1]; omega
      rw [h3, Nat.add_assoc, ← Nat.mul_add, ← Ch_succ]
      rw [Nat.add_mul (n + 1) 1]; omega
theorem Ch_dvd {p : Nat} (hp : Prim p) (k : Nat) (h0 : 0 < k) (h1 : k < p) : p ∣ Ch p k := by
  have h2 := hp.1
  obtain ⟨q, rfl⟩ : ∃ q, p = q + 1 := ⟨p - 1, by omega⟩
  obtain ⟨j, rfl⟩ : ∃ j, k = j + 1 := ⟨k - 1, by omega⟩
  exact hp.dvd h0 h1 ⟨Ch q j, Ch_mul q j⟩

def sm (f : Nat → Nat) : Nat → Nat
  | 0 => 0
  | n + 1 => sm f n + f n
theorem sm_shift (f : Nat → Nat) (m : Nat) : sm f (m + 1) = f 0 + sm (fun k => f (k + 1)) m := by
  induction m with
  | zero => simp [sm]
  | succ m ih => rw [sm, ih]; simp [sm]; omega
theorem sm_add (f g : Nat → Nat) (m : Nat) : sm (fun k => f k + g k) m = sm f m + sm g m := by
  induction m with
  | zero => rfl
  | succ m ih => simp only [sm]; rw [ih]; omega
theorem sm_mul (c : Nat) (f : Nat → Nat) (m : Nat) : sm (fun k => c * f k) m = c * sm f m := by
  induction m with
  | zero => rfl
  | succ m ih => simp only [sm]; rw [ih, Nat.mul_add]
theorem sm_congr (f g : Nat → Nat) (m : Nat) (h : ∀ k, k < m → f k = g k) : sm f m = sm g m := by
  induction m with
  | zero => rfl
  | succ m ih => simp only [sm]; rw [ih (fun k hk => h k (by omega)), h m (by omega)]
theorem sm_dvd (p : Nat) (f : Nat → Nat) (m : Nat) (h : ∀ k, k < m → p ∣ f k) : p ∣ sm f m := by
  induction m with
  | zero => exact Nat.dvd_zero p
  | succ m ih => exact Nat.dvd_add (ih (fun k hk => h k (by omega))) (h m (by omega))
theorem binom (a n : Nat) : ∀ m, n < m → sm (fun k => Ch n k * a ^ k) m = (a + 1) ^ n := by
  induction n with
  | zero =>
    intro m hm
    obtain ⟨m, rfl⟩ : ∃ j, m = j + 1 := ⟨m - 1, by omega⟩
    rw [sm_shift]
    have : sm (fun k => Ch 0 (k + 1) * a ^ (k + 1)) m = sm (fun k => 0 * k) m := sm_congr _ _ _ (fun k _ => by rw [Ch_big 0 (k + 1) (by omega)]; simp)
    rw [this, sm_mul]; simp [Ch]
  | succ n ih =>
    intro m hm
    obtain ⟨m, rfl⟩ : ∃ j, m = j + 1 := ⟨m - 1, by omega⟩
    rw [sm_shift]
    have e : sm (fun k => Ch (n + 1) (k + 1) * a ^ (k + 1)) m = sm (fun k => a * (Ch n k * a ^ k) + Ch n (k + 1) * a ^ (k + 1)) m := by
      refine sm_congr _ _ _ (fun k _ => ?_)
      rw [Ch_succ, Nat.add_mul, Nat.pow_succ]
      congr 1
      rw [Nat.mul_comm (a ^ k) a, Nat.mul_left_comm]
    rw [e, sm_add, sm_mul, ih m (by omega)]
    have e2 := sm_shift (fun k => Ch n k * a ^ k) m
    rw [ih (m + 1) (by omega)] at e2
    have e3 : Ch n 0 * a ^ 0 = Ch (n + 1) 0 * a ^ 0 := by rw [Ch_zero, Ch_zero]
    simp only [e3] at e2
    rw [Nat.pow_succ, Nat.mul_add, Nat.mul_one, Nat.mul_comm ((a + 1) ^ n) a]
    omega

/-! ### Fermat -/
theorem frob {p : Nat} (hp : Prim p) (a : Nat) : (a + 1) ^ p % p = (a ^ p + 1) % p := by
  have h2 := hp.1
  obtain ⟨q, rfl⟩ : ∃ q, p = q + 1 := ⟨p - 1, by omega⟩
  have h := binom a (q + 1) (q + 1 + 1) (by omega)
  rw [sm_shift, sm] at h
  simp only [Ch_zero, Ch_self, Nat.pow_zero, Nat.one_mul] at h
  have hd : (q + 1) ∣ sm (fun k => Ch (q + 1) (k + 1) * a ^ (k + 1)) q :=
    sm_dvd _ _ _ (fun k hk => Nat.dvd_mul_right_of_dvd (Ch_dvd hp (k + 1) (by omega) (by omega)) _)
  obtain ⟨c, hc⟩ := hd
  rw [hc] at h
  rw [← h, show 1 + ((q + 1) * c + a ^ (q + 1)) = (a ^ (q + 1) + 1) + (q + 1) * c from by omega, Nat.add_mul_mod_self_left]
theorem fermat_all {p : Nat} (hp : Prim p) (a : Nat) : a ^ p % p = a % p := by
  have h2 := hp.1
  induction a with
  | zero => rw [Nat.zero_pow (by omega)]
  | succ a ih => rw [frob hp, Nat.add_mod, ih, ← Nat.add_mod]
theorem fermat {p : Nat} (hp : Prim p) (a : Nat) (h0 : 0 < a) (h1 : a < p) : a ^ (p - 1) % p = 1 := by
  have h2 := hp.1
  have h := fermat_all hp a
  obtain ⟨q, rfl⟩ : ∃ q, p = q + 1 := ⟨p - 1, by omega⟩
  rw [Nat.add_sub_cancel]
  have hpos : 0 < a ^ q := Nat.pow_pos h0
  have hd : (q + 1) ∣ a * (a ^ q - 1) := by
    rw [Nat.mul_sub, Nat.mul_one]
    have e : a * a ^ q = a ^ (q + 1) := by rw [Nat.pow_succ, Nat.mul_comm]
    rw [e]
    exact Nat.dvd_of_mod_eq_zero (Nat.sub_mod_eq_zero_of_mod_eq h)
  obtain ⟨c, hc⟩ := hp.dvd h0 h1 hd
  have e : a ^ q = 1 + (q + 1) * c := by omega
  rw [e, Nat.add_mul_mod_self_left, Nat.mod_eq_of_lt (by omega)]

/-! ### The group -/
theorem pw_fermat0 {p : Nat} (hp : Prim p) (n : Nat) (h0 : 0 < n) (h1 : n < p) : gpw (n : Int) (p - 1) (p : Int) = 1 := by
  have h := fermat hp n h0 h1
  unfold gpw
  have h2 : ((n ^ (p - 1) % p : Nat) : Int) = 1 := by rw [h]; rfl
  rw [Int.natCast_emod, Int.natCast_pow] at h2
  exact h2
theorem pw_fermat (a : Int) (h0 : 0 < a) (h1 : a < 1000000007) : gpw a 1000000006 1000000007 = 1 := by
  obtain ⟨n, rfl⟩ := Int.eq_ofNat_of_zero_le (Int.le_of_lt h0)
  exact pw_fermat0 prim_P n (by omega) (by omega)

/-- A product of two numbers that the modulus divides. -/
theorem P_dvd (a b : Int) (h : a * b % 1000000007 = 0) : a % 1000000007 = 0 ∨ b % 1000000007 = 0 := by
  by_cases h0 : a % 1000000007 = 0
  · exact .inl h0
  · right
    have e : (a % 1000000007) * (b % 1000000007) % 1000000007 = 0 := by rw [← Int.mul_emod]; exact h
    obtain ⟨x, hx⟩ := Int.eq_ofNat_of_zero_le (Int.emod_nonneg a (show (1000000007 : Int) ≠ 0 by omega))
    obtain ⟨y, hy⟩ := Int.eq_ofNat_of_zero_le (Int.emod_nonneg b (show (1000000007 : Int) ≠ 0 by omega))
    rw [hx, hy] at e
    rw [hx] at h0
    rw [hy]
    have hxl : x < 1000000007 := by omega
    have hyl : y < 1000000007 := by omega
    have e2 : x * y % 1000000007 = 0 := by
      have : ((x * y % 1000000007 : Nat) : Int) = 0 := by rw [Int.natCast_emod, Int.natCast_mul]; exact e
      omega
    have e3 := prim_P.dvd (k := x) (m := y) (by omega) hxl (Nat.dvd_of_mod_eq_zero e2)
    have e4 : y % 1000000007 = 0 := Nat.mod_eq_zero_of_dvd e3
    omega

def isB (a : Int) : Bool := decide (0 < a) && (decide (a < 1000000007) && (gpw a 500000003 1000000007 == 1))
theorem isB_bd {a : Int} (h : isB a = true) : 0 < a ∧ a < 1000000007 := by
  simp [isB] at h; exact ⟨h.1, h.2.1⟩
theorem isB_pw {a : Int} (h : isB a = true) : gpw a 500000003 1000000007 = 1 := by
  simp [isB] at h; exact h.2.2
theorem isB_iff {a : Int} : isB a = true ↔ 0 < a ∧ a < 1000000007 ∧ gpw a 500000003 1000000007 = 1 := by simp [isB]
theorem pw_0 (n : Nat) (hn : 0 < n) : gpw 0 n 1000000007 = 0 := by
  unfold gpw; rw [Int.zero_pow (by omega)]; rfl
theorem isB_of {a : Int} (h0 : 0 ≤ a) (h1 : a < 1000000007) (h : gpw a 500000003 1000000007 = 1) : isB a = true := by
  rw [isB_iff]
  refine ⟨?_, h1, h⟩
  rcases (show a = 0 ∨ 0 < a from by omega) with e | e
  · subst e; rw [pw_0 _ (by omega)] at h; omega
  · exact e
theorem isB_mul {a b : Int} (ha : isB a = true) (hb : isB b = true) : isB (a * b % 1000000007) = true := by
  refine isB_of (Int.emod_nonneg _ (by omega)) (Int.emod_lt_of_pos _ (by omega)) ?_
  rw [pw_mod, pw_base_mul, isB_pw ha, isB_pw hb]; rfl
theorem isB_pow {a : Int} (ha : isB a = true) (n : Nat) : isB (gpw a n 1000000007) = true := by
  refine isB_of (pw_nonneg _ _ _ (by omega)) (pw_lt _ _ _ (by omega)) ?_
  rw [pw_mul, Nat.mul_comm, ← pw_mul, isB_pw ha, pw_one_base _ _ (by omega)]
theorem pw_1 {a : Int} (h0 : 0 ≤ a) (h1 : a < 1000000007) : gpw a 1 1000000007 = a := by
  rw [pw_one, Int.emod_eq_of_lt h0 h1]
/-- A number times its inverse. -/
theorem mul_inv {a : Int} (ha : isB a = true) : a * gpw a 500000002 1000000007 % 1000000007 = 1 := by
  have ⟨h0, h1⟩ := isB_bd ha
  have e := pw_add a 1 500000002 1000000007
  rw [pw_1 (by omega) h1] at e
  rw [e]
  exact isB_pw ha
theorem inv_inv {a : Int} (ha : isB a = true) : gpw (gpw a 500000002 1000000007) 500000002 1000000007 = a := by
  have ⟨h0, h1⟩ := isB_bd ha
  rw [pw_mul, ← pw_rem a _ 500000003 _ (by omega) (isB_pw ha)]
  exact pw_1 (by omega) h1
theorem half (a : Int) (h0 : 0 < a) (h1 : a < 1000000007) : gpw a 500000003 1000000007 = 1 ∨ gpw a 500000003 1000000007 = 1000000006 := by
  have hf := pw_fermat a h0 h1
  have e : gpw a 500000003 1000000007 * gpw a 500000003 1000000007 % 1000000007 = 1 := by rw [pw_add]; exact hf
  have l0 := pw_nonneg a 500000003 1000000007 (by omega)
  have l1 := pw_lt a 500000003 1000000007 (by omega)
  generalize gpw a 500000003 1000000007 = x at *
  have h : (x - 1) * (x + 1) % 1000000007 = 0 := by
    have e2 : (x - 1) * (x + 1) = x * x - 1 := by rw [Int.sub_mul, Int.mul_add, Int.mul_add]; omega
    rw [e2]; omega
  rcases P_dvd _ _ h with h | h <;> omega
theorem neg_pow_odd (x : Int) (k : Nat) : (-x) ^ (2 * k + 1) = -(x ^ (2 * k + 1)) := by
  rw [Int.pow_succ, Int.pow_succ, Int.pow_mul, Int.pow_mul]
  have : (-x) ^ 2 = x ^ 2 := by rw [Int.pow_succ, Int.pow_succ, Int.pow_succ, Int.pow_succ, Int.pow_zero, Int.pow_zero, Int.one_mul, Int.one_mul, Int.neg_mul_neg]
  rw [this, Int.mul_neg]
theorem opposite (a : Int) : gpw (1000000007 - a) 500000003 1000000007 = (1000000007 - gpw a 500000003 1000000007) % 1000000007 := by
  have e : gpw (1000000007 - a) 500000003 1000000007 = gpw (-a) 500000003 1000000007 := by
    rw [← pw_mod (1000000007 - a), ← pw_mod (-a)]
    congr 1; omega
  rw [e]
  have h : ∀ n, n = 2 * 250000001 + 1 → gpw (-a) n 1000000007 = (1000000007 - gpw a n 1000000007) % 1000000007 := by
    intro n hn
    subst hn
    unfold gpw
    rw [neg_pow_odd]
    generalize a ^ (2 * 250000001 + 1) = z
    omega
  exact h 500000003 rfl
/-- Of a number and its opposite just one is in the group. -/
theorem isB_opp (a : Int) (h0 : 0 < a) (h1 : a < 1000000007) : isB a = !isB (1000000007 - a) := by
  have h2 := opposite a
  rcases half a h0 h1 with h | h
  · rw [h] at h2
    have e1 : isB a = true := isB_iff.2 ⟨h0, h1, h⟩
    have e2 : isB (1000000007 - a) = false := by
      rw [Bool.eq_false_iff]
      intro hb
      have := isB_pw hb
      rw [h2] at this
      omega
    rw [e1, e2]; rfl
  · rw [h] at h2
    have e1 : isB a = false := by
      rw [Bool.eq_false_iff]
      intro hb
      have := isB_pw hb
      omega
    have e2 : isB (1000000007 - a) = true := isB_iff.2 ⟨by omega, by omega, by rw [h2]; rfl⟩
    rw [e1, e2]; rfl
theorem isB_square (a : Int) (h0 : 0 < a) (h1 : a < 1000000007) : isB (a * a % 1000000007) = true := by
  refine isB_of (Int.emod_nonneg _ (by omega)) (Int.emod_lt_of_pos _ (by omega)) ?_
  rw [pw_mod, pw_base_mul, pw_add]
  exact pw_fermat a h0 h1
theorem isB_0 : isB 0 = false := by simp [isB]

end Go.Proofs.YthdldmkeoglflaaDoor
