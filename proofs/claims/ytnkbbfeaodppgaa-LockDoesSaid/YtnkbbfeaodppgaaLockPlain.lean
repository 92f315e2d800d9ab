/- A lock as plain data. -/
import Derived.Test.YtnkbbfeaodppgaaMem3
namespace Go.Proofs.Ytnkbbfeaodppgaa
open Go.RowKit
set_option linter.unusedSimpArgs false

/-- A fact that no tactic opens. -/
structure Box (p : Prop) : Prop where
  out : p
abbrev Waits := List (Int × Bool)
/-- The i-th that waits: its task, and whether it writes. -/
def tk (hs : Waits) (i : Nat) : Int := (hs[i]?.getD (0, false)).1
def md (hs : Waits) (i : Nat) : Bool := (hs[i]?.getD (0, false)).2
def taskB (t : Int) : Bool := decide (0 ≤ t) && decide (t < 12)
def canB (W : Int) (rs : List Int) (b : Bool) : Bool := W == -1 && (!b || rs.length == 0)
/-- The index of a value, or -1. -/
def idxN (xs : List Int) (v : Int) : Int := if xs.findIdx (· == v) < xs.length then xs.findIdx (· == v) else -1
theorem idxN_at {xs : List Int} {v : Int} {k : Nat} (hk : k < xs.length) (hp : xs[k]?.getD 0 = v) (h : ∀ j, j < k → xs[j]?.getD 0 ≠ v) : idxN xs v = k := by
  have : xs.findIdx (· == v) = k := by
    rw [List.findIdx_eq hk]
    refine ⟨?_, fun j hj => ?_⟩
    · rw [List.getElem?_eq_getElem hk] at hp
      simpa using hp
    · have := h j hj
      rw [List.getElem?_eq_getElem (by omega)] at this
      simpa using this
  unfold idxN
  rw [this, if_pos hk]
theorem idxN_none {xs : List Int} {v : Int} (h : ∀ j, j < xs.length → xs[j]?.getD 0 ≠ v) : idxN xs v = -1 := by
  unfold idxN
  rw [if_neg]
  rw [List.findIdx_lt_length]
  rintro ⟨x, hx, hp⟩
  obtain ⟨j, hj, rfl⟩ := List.getElem_of_mem hx
  have := h j hj
  rw [List.getElem?_eq_getElem hj] at this
  exact this (by simpa using hp)
theorem idxN_any (xs : List Int) (v : Int) : decide (0 ≤ idxN xs v) = xs.contains v := by
  rw [Bool.eq_iff_iff, decide_eq_true_iff, List.contains_iff_mem]
  unfold idxN
  split
  · rename_i h
    rw [List.findIdx_lt_length] at h
    obtain ⟨x, hx, hp⟩ := h
    have : x = v := by simpa using hp
    subst this
    exact ⟨fun _ => hx, fun _ => by omega⟩
  · rename_i h
    rw [List.findIdx_lt_length] at h
    exact ⟨fun h0 => by omega, fun h0 => absurd ⟨v, h0, by simp⟩ h⟩
/-- The place of a task in the queue, or -1. -/
def idxW (hs : Waits) (t : Int) : Int := idxN (hs.map (·.1)) t
theorem tk_map (hs : Waits) (j : Nat) : (hs.map (·.1))[j]?.getD 0 = tk hs j := by
  unfold tk
  rw [List.getElem?_map]
  cases hs[j]? <;> rfl
/-- What a task has of a lock. -/
def hasZ (W : Int) (rs : List Int) (q : Waits) (t : Int) : Int := if W = t then 2 else if rs.contains t then 1 else if (q.map (·.1)).contains t then -1 else 0

/-- The cells of waits. -/
def celW (hs : Waits) : List Value := hs.flatMap fun s => [.int .i64 s.1, .bool s.2]
theorem celW_nil : celW [] = [] := rfl
theorem celW_cons (s : Int × Bool) (hs : Waits) : celW (s :: hs) = .int .i64 s.1 :: .bool s.2 :: celW hs := rfl
theorem celW_append (xs ys : Waits) : celW (xs ++ ys) = celW xs ++ celW ys := List.flatMap_append
theorem celW_len : ∀ hs : Waits, (celW hs).length = hs.length * 2
  | [] => rfl
  | s :: hs => by rw [celW_cons]; simp [celW_len hs]; omega
theorem celW_at : ∀ (hs : Waits) (i : Nat), i < hs.length → (celW hs)[i * 2]? = some (.int .i64 (tk hs i)) ∧ (celW hs)[i * 2 + 1]? = some (.bool (md hs i))
  | [], i, h => by simp at h
  | s :: hs, 0, h => by simp [celW_cons, tk, md]
  | s :: hs, i + 1, h => by
    have ih := celW_at hs i (by simpa using h)
    rw [celW_cons, show (i + 1) * 2 = i * 2 + 1 + 1 by omega]
    simpa [tk, md] using ih
theorem celW_one : ∀ (hs : Waits), ∀ u ∈ celW hs, u.oneCell' = true
  | [], u, h => by simp [celW_nil] at h
  | s :: hs, u, h => by
    rw [celW_cons] at h
    rcases List.mem_cons.1 h with rfl | h
    · rfl
    · rcases List.mem_cons.1 h with rfl | h
      · rfl
      · exact celW_one hs u h
/-- The cells of waits, in the walk's spelling. -/
theorem CellsAt.waits {w : World} {a : Option Addr} {hs : Waits} (h : CellsAt w a (celW hs)) (hne : 0 < hs.length) :
    ∃ b o, a = some ⟨b, o, none⟩ ∧ b < w.heap.size ∧ b ≠ w.heap.size ∧ ∀ j, j < hs.length → w.cell? ⟨b, o + j * 2, none⟩ = some (.int .i64 (tk hs j)) ∧ w.cell? ⟨b, o + j * 2 + 1, none⟩ = some (.bool (md hs j)) := by
  rcases h with h | ⟨b, o, ha, h⟩
  · have := celW_len hs; rw [h] at this; simp at this; omega
  · have key : ∀ j, j < hs.length → w.cell? ⟨b, o + j * 2, none⟩ = some (.int .i64 (tk hs j)) ∧ w.cell? ⟨b, o + j * 2 + 1, none⟩ = some (.bool (md hs j)) := fun j hj => by
      have := celW_at hs j hj
      exact ⟨h _ _ this.1, by have h2 := h _ _ this.2; rwa [← Nat.add_assoc] at h2⟩
    have := World.block_lt_of_cell? _ _ (key 0 hne).1
    simp only at this
    exact ⟨b, o, ha, this, by omega, key⟩

end Go.Proofs.Ytnkbbfeaodppgaa
