/- Granting, as plain data. -/
import Derived.Test.YtnkbbfeaodppgaaLockIns
namespace Go.Proofs.Ytnkbbfeaodppgaa
open Go.RowKit

/-- The readers with one more. -/
def insL (rs : List Int) (t : Int) : List Int := rs.take (lbI rs t) ++ [t] ++ rs.drop (lbI rs t)
theorem insL_nil (t : Int) : insL [] t = [t] := rfl
theorem insL_cons (x : Int) (r : List Int) (t : Int) : insL (x :: r) t = if x < t then x :: insL r t else t :: x :: r := by
  unfold insL
  by_cases h : x < t
  · have : lbI (x :: r) t = lbI r t + 1 := by rw [lbI, if_pos h]
    rw [this, if_pos h]
    simp
  · have : lbI (x :: r) t = 0 := by rw [lbI, if_neg h]
    rw [this, if_neg h]
    simp
theorem insL_mem (t y : Int) : ∀ rs : List Int, y ∈ insL rs t ↔ y = t ∨ y ∈ rs
  | [] => by simp [insL_nil]
  | x :: r => by
    rw [insL_cons]
    split
    · rw [List.mem_cons, insL_mem t y r, List.mem_cons]
      exact ⟨fun h => by rcases h with h | h | h <;> simp [h], fun h => by rcases h with h | h | h <;> simp [h]⟩
    · simp
theorem insL_len (t : Int) : ∀ rs : List Int, (insL rs t).length = rs.length + 1
  | [] => rfl
  | x :: r => by
    rw [insL_cons]
    split
    · simp [insL_len t r]
    · simp
theorem insL_inc (t : Int) : ∀ rs : List Int, rs.Pairwise (· < ·) → t ∉ rs → (insL rs t).Pairwise (· < ·)
  | [], _, _ => by simp [insL_nil]
  | x :: r, h, hn => by
    have h1 := List.pairwise_cons.1 h
    have hne : x ≠ t := fun e => hn (by simp [e])
    rw [insL_cons]
    split
    · rename_i hx
      refine List.pairwise_cons.2 ⟨fun y hy => ?_, insL_inc t r h1.2 fun hm => hn (List.mem_cons_of_mem _ hm)⟩
      rcases (insL_mem t y r).1 hy with rfl | hy
      · exact hx
      · exact h1.1 y hy
    · rename_i hx
      refine List.pairwise_cons.2 ⟨fun y hy => ?_, h⟩
      rcases List.mem_cons.1 hy with rfl | hy
      · omega
      · have := h1.1 y hy; omega
/-- The lock after granting, and the tasks that have it then. -/
def grantP (W : Int) : List Int → Waits → Int × List Int × Waits × List Int
  | rs, [] => (W, rs, [], [])
  | rs, w :: q => if canB W rs w.2 = true then (if w.2 = true then (w.1, rs, q, [w.1]) else
      let r := grantP W (insL rs w.1) q
      (r.1, r.2.1, r.2.2.1, w.1 :: r.2.2.2)) else (W, rs, w :: q, [])
/-- What is handed out and what still waits are the queue's tasks, in its order. -/
theorem grantP_all (W : Int) : ∀ (q : Waits) (rs : List Int), (grantP W rs q).2.2.2 ++ (grantP W rs q).2.2.1.map (·.1) = q.map (·.1)
  | [], rs => rfl
  | w :: q, rs => by
    rw [grantP]
    split
    · split
      · simp
      · simp only [List.cons_append, List.map_cons, List.cons.injEq, true_and]
        exact grantP_all W q (insL rs w.1)
    · simp

end Go.Proofs.Ytnkbbfeaodppgaa
