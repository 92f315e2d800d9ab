/- Tasks as plain data, and what the operations do. -/
import Derived.Test.YtoelndaeemlefaaMem2
namespace Go.Proofs.Ytoelndaeemlefaa
open Go.RowKit
set_option linter.unusedSimpArgs false

def g (xs : List Int) (j : Nat) : Int := xs[j]?.getD 0
theorem CellsAt.intG {k : IntKind} {w : World} {a : Option Addr} {xs : List Int} (h : CellsAt w a (xs.map (Value.int k))) (hne : 0 < xs.length) :
    ∃ b o, a = some ⟨b, o, none⟩ ∧ ∀ j, j < xs.length → w.cell? ⟨b, o + j, none⟩ = some (.int k (g xs j)) ∧ b < w.heap.size ∧ b ≠ w.heap.size := by
  obtain ⟨b, o, ha, hr⟩ := h.int hne
  refine ⟨b, o, ha, fun j hj => ?_⟩
  have := World.block_lt_of_cell? _ _ (hr j hj)
  simp only at this
  exact ⟨hr j hj, this, by omega⟩
theorem g_set {xs : List Int} {i j : Nat} {v : Int} (hi : i < xs.length) : g (xs.set i v) j = if i = j then v else g xs j := by
  unfold g
  rw [List.getElem?_set]
  split
  · simp [hi]
  · rfl
theorem ext_g {xs ys : List Int} (hl : xs.length = ys.length) (h : ∀ j, j < xs.length → g xs j = g ys j) : xs = ys := by
  refine List.ext_getElem hl fun i h1 h2 => ?_
  have := h i h1
  simpa [g, h1, h2] using this

/-- The i-th numbers are valid. -/
def validAt (l a : List Int) (i : Nat) : Bool := decide (0 ≤ g l i) && (decide (g l i ≤ 60) && (decide (-1 ≤ g a i) && decide (g a i < i)))
/-- The error of tasks. -/
def tErr (l a : List Int) : Int :=
  if l.length < 1 then 8 else if 12 < l.length then 8 else if a.length = l.length then (if (List.range l.length).all (validAt l a) then 0 else 8) else 8
theorem tErr_cases (l a : List Int) : tErr l a = 0 ∨ tErr l a = 8 := by
  unfold tErr; (repeat' split) <;> simp
theorem tErr_ok {l a : List Int} (h : tErr l a = 0) : 1 ≤ l.length ∧ l.length ≤ 12 ∧ a.length = l.length ∧ ∀ i, i < l.length → 0 ≤ g l i ∧ g l i ≤ 60 ∧ -1 ≤ g a i ∧ g a i < i := by
  unfold tErr at h
  split at h <;> try (exact absurd h (by omega))
  split at h <;> try (exact absurd h (by omega))
  split at h <;> try (exact absurd h (by omega))
  split at h <;> try (exact absurd h (by omega))
  rename_i h1 h2 h3 h4
  refine ⟨by omega, by omega, h3, fun i hi => ?_⟩
  have := List.all_eq_true.1 h4 i (List.mem_range.2 hi)
  simpa [validAt] using this
theorem tErr_zero {l a : List Int} (h1 : 1 ≤ l.length) (h2 : l.length ≤ 12) (h3 : a.length = l.length) (h4 : ∀ i, i < l.length → validAt l a i = true) : tErr l a = 0 := by
  unfold tErr
  rw [if_neg (by omega), if_neg (by omega), if_pos h3, if_pos]
  exact List.all_eq_true.2 fun i hi => h4 i (List.mem_range.1 hi)
theorem tErr_bad {l a : List Int} {i : Nat} (hi : i < l.length) (h : validAt l a i = false) : tErr l a = 8 := by
  rcases tErr_cases l a with h0 | h0
  · have := (tErr_ok h0).2.2.2 i hi
    simp [validAt] at h
    omega
  · exact h0

/-- The error of tasks and picks. -/
def pkErr (l a ps : List Int) : Int :=
  if tErr l a = 0 then (if 300 < ps.length then 4 else if (List.range ps.length).all (fun j => decide (0 ≤ g ps j) && decide (g ps j < l.length)) then 0 else 2) else 8
theorem pkErr_cases (l a ps : List Int) : pkErr l a ps = 0 ∨ pkErr l a ps = 2 ∨ pkErr l a ps = 4 ∨ pkErr l a ps = 8 := by
  unfold pkErr; (repeat' split) <;> simp
theorem pkErr_ok {l a ps : List Int} (h : pkErr l a ps = 0) : tErr l a = 0 ∧ ps.length ≤ 300 ∧ ∀ j, j < ps.length → 0 ≤ g ps j ∧ g ps j < l.length := by
  unfold pkErr at h
  split at h <;> try (exact absurd h (by omega))
  split at h <;> try (exact absurd h (by omega))
  split at h <;> try (exact absurd h (by omega))
  rename_i h1 h2 h3
  refine ⟨h1, by omega, fun j hj => ?_⟩
  have := List.all_eq_true.1 h3 j (List.mem_range.2 hj)
  simpa using this
theorem pkErr_zero {l a ps : List Int} (h1 : tErr l a = 0) (h2 : ps.length ≤ 300) (h3 : ∀ j, j < ps.length → 0 ≤ g ps j ∧ g ps j < l.length) : pkErr l a ps = 0 := by
  unfold pkErr
  rw [if_pos h1, if_neg (by omega), if_pos]
  exact List.all_eq_true.2 fun i hi => by have := h3 i (List.mem_range.1 hi); simp; omega
theorem pkErr_bad {l a ps : List Int} (h1 : tErr l a = 0) (h2 : ps.length ≤ 300) {j : Nat} (hj : j < ps.length) (h : g ps j < 0 ∨ (l.length : Int) ≤ g ps j) : pkErr l a ps = 2 := by
  unfold pkErr
  rw [if_pos h1, if_neg (by omega), if_neg]
  intro hh
  have := List.all_eq_true.1 hh j (List.mem_range.2 hj)
  simp at this; omega

/-- What holds of tasks at all times. -/
structure TV (l a : List Int) : Prop where
  len : a.length = l.length
  nth : ∀ i, i < l.length → 0 ≤ g l i ∧ g l i ≤ 60 ∧ -1 ≤ g a i ∧ g a i < i
theorem TV.of {l a : List Int} (h : tErr l a = 0) : TV l a :=
  ⟨(tErr_ok h).2.2.1, fun i hi => by have := (tErr_ok h).2.2.2 i hi; omega⟩

/-- The task is runnable. -/
def can (l a : List Int) (i : Nat) : Bool := decide (0 < g l i) && (g a i == -1 || g l (g a i).toNat == 0)
theorem TV.step {l a : List Int} (h : TV l a) {i : Nat} (hi : i < l.length) (hc : can l a i = true) : TV (l.set i (g l i - 1)) a := by
  refine ⟨by simpa using h.len, fun j hj => ?_⟩
  have hj' : j < l.length := by simpa using hj
  have h1 := h.nth j hj'
  have h2 := h.nth i hi
  rw [g_set hi]
  simp only [can, Bool.and_eq_true, decide_eq_true_eq] at hc
  split <;> omega

end Go.Proofs.Ytoelndaeemlefaa
