/- Runs, rounds and fairness: plain laws. -/
import Derived.Test.YtoelndaeemlefaaSchedFairP
import Derived.Test.YtoelndaeemlefaaSchedRoundP
namespace Go.Proofs.Ytoelndaeemlefaa
open Go.RowKit
set_option linter.unusedSimpArgs false
set_option linter.unusedVariables false

theorem tErr_of {l a : List Int} (h : TV l a) (h1 : 1 ≤ l.length) (h2 : l.length ≤ 12) : tErr l a = 0 :=
  tErr_zero h1 h2 h.len fun i hi => by
    have := h.nth i hi
    simp [validAt]; omega
theorem g_take {ps : List Int} {k j : Nat} (h : j < k) : g (ps.take k) j = g ps j := by
  unfold g; rw [List.getElem?_take_of_lt h]
theorem g_drop (ps : List Int) (k j : Nat) : g (ps.drop k) j = g ps (k + j) := by
  unfold g; rw [List.getElem?_drop]
theorem runAt_take (a ps l : List Int) (k : Nat) : ∀ j, j ≤ k → runAt a (ps.take k) l j = runAt a ps l j
  | 0, _ => rfl
  | j + 1, h => by
    unfold runAt
    rw [runAt_take a ps l k j (by omega), g_take (by omega)]
theorem runAt_succ (a ps l : List Int) (k : Nat) : runAt a ps l (k + 1) = if can (runAt a ps l k).1 a (g ps k).toNat then ((runAt a ps l k).1.set (g ps k).toNat (g (runAt a ps l k).1 (g ps k).toNat - 1), (runAt a ps l k).2 ++ [(k : Int)]) else runAt a ps l k := rfl
theorem runAt_drop (a ps l : List Int) (k : Nat) : ∀ j, (runAt a ps l (k + j)).1 = (runAt a (ps.drop k) (runAt a ps l k).1 j).1 ∧ (runAt a ps l (k + j)).2 = (runAt a ps l k).2 ++ (runAt a (ps.drop k) (runAt a ps l k).1 j).2.map (· + (k : Int))
  | 0 => by simp [runAt]
  | j + 1 => by
    obtain ⟨h1, h2⟩ := runAt_drop a ps l k j
    rw [← Nat.add_assoc]
    rw [runAt_succ a ps l (k + j), runAt_succ a (ps.drop k) _ j, g_drop, ← h1]
    by_cases hc : can (runAt a ps l (k + j)).1 a (g ps (k + j)).toNat = true
    · rw [if_pos hc, if_pos hc]
      refine ⟨rfl, ?_⟩
      simp [h2, Int.add_comm]
    · rw [if_neg hc, if_neg hc]
      exact ⟨h1, h2⟩

/-- The sum of the first k numbers. -/
def sumTo (l : List Int) : Nat → Int
  | 0 => 0
  | k + 1 => sumTo l k + g l k
theorem sumTo_set {l : List Int} {i : Nat} {v : Int} (hi : i < l.length) : ∀ k, sumTo (l.set i v) k = sumTo l k + (if i < k then v - g l i else 0)
  | 0 => by simp [sumTo]
  | k + 1 => by
    simp only [sumTo]
    rw [sumTo_set hi k, g_set hi]
    by_cases h1 : i = k
    · subst h1; simp; omega
    · by_cases h2 : i < k
      · rw [if_pos h2, if_neg h1, if_pos (by omega)]; omega
      · rw [if_neg h2, if_neg h1, if_neg (by omega)]; omega
theorem sumTo_nonneg {l : List Int} (h : ∀ i, i < l.length → 0 ≤ g l i) : ∀ k, k ≤ l.length → 0 ≤ sumTo l k
  | 0, _ => by simp [sumTo]
  | k + 1, hk => by
    have := sumTo_nonneg h k (by omega)
    have := h k (by omega)
    simp only [sumTo]; omega
theorem sumTo_ge {l : List Int} (h : ∀ i, i < l.length → 0 ≤ g l i) {i : Nat} : ∀ k, k ≤ l.length → i < k → g l i ≤ sumTo l k
  | 0, _, hi => by omega
  | k + 1, hk, hi => by
    simp only [sumTo]
    have h0 := sumTo_nonneg h k (by omega)
    have h1 := h k (by omega)
    by_cases h2 : i = k
    · subst h2; omega
    · have := sumTo_ge h k (by omega) (i := i) (by omega)
      omega
theorem sumTo_le {l : List Int} (h : ∀ i, i < l.length → g l i ≤ 60) : ∀ k, k ≤ l.length → sumTo l k ≤ 60 * k
  | 0, _ => by simp [sumTo]
  | k + 1, hk => by
    have := sumTo_le h k (by omega)
    have := h k (by omega)
    simp only [sumTo]; omega
theorem sumTo_pos {l : List Int} : ∀ k, 0 < sumTo l k → ∃ i, i < k ∧ 0 < g l i
  | 0, h => by simp [sumTo] at h
  | k + 1, h => by
    simp only [sumTo] at h
    by_cases h1 : 0 < g l k
    · exact ⟨k, by omega, h1⟩
    · obtain ⟨i, h2, h3⟩ := sumTo_pos (l := l) k (by omega)
      exact ⟨i, by omega, h3⟩
theorem can_left {l a : List Int} {i : Nat} (h : can l a i = true) : 0 < g l i := by
  simp only [can, Bool.and_eq_true, decide_eq_true_eq] at h; exact h.1
theorem run_sum {a ps l : List Int} (hp : ∀ j, j < ps.length → 0 ≤ g ps j ∧ g ps j < l.length) : ∀ k, k ≤ ps.length → sumTo (runAt a ps l k).1 l.length + (runAt a ps l k).2.length = sumTo l l.length
  | 0, _ => by simp [runAt]
  | k + 1, hk => by
    have ih := run_sum (a := a) hp k (by omega)
    have hl := runAt_len a ps l k
    have := hp k (by omega)
    unfold runAt
    split
    · simp only [List.length_append, List.length_singleton]
      rw [sumTo_set (by omega), if_pos (by omega)]
      push_cast; omega
    · exact ih
/-- As long as a task is not done, some task is runnable. -/
theorem some_can {l a : List Int} (h : TV l a) (hs : 0 < sumTo l l.length) : ∃ i, i < l.length ∧ can l a i = true := by
  have key : ∀ n i, i ≤ n → i < l.length → 0 < g l i → ∃ i, i < l.length ∧ can l a i = true := by
    intro n
    induction n with
    | zero =>
      intro i hi hl hg
      obtain rfl : i = 0 := by omega
      have := h.nth 0 hl
      refine ⟨0, hl, ?_⟩
      simp [can]; omega
    | succ n ih =>
      intro i hi hl hg
      have h1 := h.nth i hl
      by_cases h2 : g a i = -1
      · exact ⟨i, hl, by simp [can, hg, h2]⟩
      · have h3 : (g a i).toNat < i := by omega
        by_cases h4 : g l (g a i).toNat = 0
        · exact ⟨i, hl, by simp [can, hg, h4]⟩
        · have := h.nth (g a i).toNat (by omega)
          exact ih (g a i).toNat (by omega) (by omega) (by omega)
  obtain ⟨i, h1, h2⟩ := sumTo_pos _ hs
  exact key i i (Nat.le_refl _) h1 h2
theorem runs_pos {l a : List Int} (h : TV l a) : (0 < (runs l a l.length).length) ↔ 0 < sumTo l l.length := by
  constructor
  · intro h1
    unfold runs at h1
    rw [List.length_map] at h1
    obtain ⟨x, hx⟩ := List.exists_mem_of_length_pos h1
    have := List.mem_filter.1 hx
    have h2 := List.mem_range.1 this.1
    have h3 := can_left this.2
    have := sumTo_ge (fun i hi => (h.nth i hi).1) l.length (Nat.le_refl _) h2
    omega
  · intro h1
    obtain ⟨i, h2, h3⟩ := some_can h h1
    unfold runs
    rw [List.length_map]
    exact List.length_pos_of_mem (List.mem_filter.2 ⟨List.mem_range.2 h2, h3⟩)

theorem runAt_mono (a ps l : List Int) (k : Nat) (hp : ∀ j, j < ps.length → 0 ≤ g ps j ∧ g ps j < l.length) : ∀ j j', j ≤ j' → j' ≤ ps.length → g (runAt a ps l j').1 k ≤ g (runAt a ps l j).1 k := by
  intro j j' h
  obtain ⟨d, rfl⟩ := Nat.exists_eq_add_of_le h
  clear h
  induction d with
  | zero => intro _; exact Int.le_refl _
  | succ d ih =>
    intro hj
    have ih := ih (by omega)
    have hl := runAt_len a ps l (j + d)
    have := hp (j + d) (by omega)
    rw [← Nat.add_assoc, runAt_succ]
    split
    · simp only
      rw [g_set (by omega)]
      split
      · rename_i h1; subst h1; omega
      · exact ih
    · exact ih
theorem can_keep {a ps l : List Int} {k j : Nat} (hp : 0 ≤ g ps j ∧ g ps j < l.length) (hs : skip l a ps k j = true) (hk : -1 ≤ g a k) : can (runAt a ps l (j + 1)).1 a k = true := by
  simp only [skip, Bool.and_eq_true, Bool.not_eq_true', beq_eq_false_iff_ne] at hs
  obtain ⟨h1, h2⟩ := hs
  have hl := runAt_len a ps l j
  unfold runAt
  split
  · rename_i hc
    simp only
    have hm := can_left hc
    have hne : (g ps j).toNat ≠ k := by omega
    simp only [can, Bool.and_eq_true, Bool.or_eq_true, decide_eq_true_eq, beq_iff_eq] at h1 ⊢
    rw [g_set (by omega), if_neg hne]
    refine ⟨h1.1, ?_⟩
    rcases h1.2 with h3 | h3
    · exact .inl h3
    · right
      rw [g_set (by omega), if_neg]
      · exact h3
      · intro e; rw [e] at hm; omega
  · exact h1
/-- A task that is runnable takes a step within the window. -/
theorem window_step {a ps l : List Int} {W k at_ : Nat} (hp : ∀ j, j < ps.length → 0 ≤ g ps j ∧ g ps j < l.length) (hf : fairB l a ps W = true) (hat : at_ + W ≤ ps.length) (hk : k < l.length) (hka : -1 ≤ g a k) (hc : can (runAt a ps l at_).1 a k = true) :
    g (runAt a ps l (at_ + W)).1 k < g (runAt a ps l at_).1 k := by
  obtain ⟨d, hd, hs⟩ := fairB_spec hf hat hk
  have key : ∀ e, (∀ e', e' < e → skip l a ps k (at_ + e') = true) → e ≤ W → can (runAt a ps l (at_ + e)).1 a k = true := by
    intro e
    induction e with
    | zero => intro _ _; exact hc
    | succ e ih =>
      intro h he
      exact can_keep (hp (at_ + e) (by omega)) (h e (by omega)) hka
  have fst : ∀ n, n ≤ W → (∃ d, d < n ∧ skip l a ps k (at_ + d) = false) → ∃ d, d < n ∧ skip l a ps k (at_ + d) = false ∧ ∀ e, e < d → skip l a ps k (at_ + e) = true := by
    intro n
    induction n with
    | zero => rintro _ ⟨d, h, _⟩; omega
    | succ n ih =>
      rintro hn ⟨d, h1, h2⟩
      by_cases hex : ∃ d, d < n ∧ skip l a ps k (at_ + d) = false
      · obtain ⟨d, h3, h4, h5⟩ := ih (by omega) hex
        exact ⟨d, by omega, h4, h5⟩
      · refine ⟨d, h1, h2, fun e he => ?_⟩
        cases hse : skip l a ps k (at_ + e) with
        | true => rfl
        | false => exact absurd ⟨e, by omega, hse⟩ hex
  obtain ⟨d, h1, h2, h3⟩ := fst W (Nat.le_refl _) ⟨d, hd, hs⟩
  have hcd := key d h3 (by omega)
  have hpk : g ps (at_ + d) = k := by
    simp only [skip, hcd, Bool.true_and, Bool.not_eq_false', beq_iff_eq] at h2
    exact h2
  have hst := runAt_yes (a := a) (l := l) hpk hcd
  have hl := runAt_len a ps l (at_ + d)
  have m1 := runAt_mono a ps l k hp at_ (at_ + d) (by omega) (by omega)
  have m2 := runAt_mono a ps l k hp (at_ + d + 1) (at_ + W) (by omega) (by omega)
  rw [hst] at m2
  simp only at m2
  rw [g_set (by omega), if_pos rfl] at m2
  omega
theorem fair_more {l a ps : List Int} {W : Nat} (hf : fairB l a ps W = true) : fairB l a ps (W + 1) = true :=
  fairB_yes fun i k hi hk => by
    obtain ⟨d, h1, h2⟩ := fairB_spec hf (i := i) (k := k) (by omega) hk
    exact ⟨d, by omega, h2⟩

end Go.Proofs.Ytoelndaeemlefaa
