/- Bytes ground in parts are ground alike. -/
import Derived.Test.YtfabcdpmnbeflaaDoorDigEnd2
namespace Go.Proofs.YtfabcdpmnbeflaaDoor
set_option maxRecDepth 100000
open Go.RowKit

theorem grindN_left (hs a b : List Int) : ∀ k, 64 * k ≤ a.length → grindN hs (a ++ b) k = grindN hs a k
  | 0, _ => rfl
  | k + 1, h => by
    rw [grindN, grindN, grindN_left hs a b k (by omega)]
    rw [← ground_take _ ((a ++ b).drop (64 * k)), ← ground_take _ (a.drop (64 * k))]
    congr 1
    rw [List.drop_append_of_le_length (by omega), List.take_append_of_le_length (by rw [List.length_drop]; omega)]
theorem grindN_add (hs bs : List Int) (q : Nat) : ∀ k, grindN hs bs (q + k) = grindN (grindN hs bs q) (bs.drop (64 * q)) k
  | 0 => rfl
  | k + 1 => by
    rw [← Nat.add_assoc, grindN, grindN_add hs bs q k, grindN, List.drop_drop, Nat.mul_add]
/-- The rest of a mill that has ground a. -/
def restL (a : List Int) : List Int := a.drop (a.length / 64 * 64)
theorem restL_len (a : List Int) : (restL a).length = a.length % 64 := by unfold restL; rw [List.length_drop]; omega
theorem mill_append (hs a b : List Int) : mill (mill hs a) (restL a ++ b) = mill hs (a ++ b) := by
  unfold mill restL
  have e1 : (a ++ b).length / 64 = a.length / 64 + (a.drop (a.length / 64 * 64) ++ b).length / 64 := by
    rw [List.length_append, List.length_append, List.length_drop]; omega
  rw [e1, grindN_add, grindN_left hs a b _ (by omega), List.drop_append_of_le_length (by omega), Nat.mul_comm 64]
theorem restL_append (a b : List Int) : restL (restL a ++ b) = restL (a ++ b) := by
  unfold restL
  have e2 : a.length / 64 * 64 + (a.length - a.length / 64 * 64) = a.length := by omega
  have e1 : (a ++ b).length / 64 * 64 = a.length / 64 * 64 + (a.drop (a.length / 64 * 64) ++ b).length / 64 * 64 := by
    rw [List.length_append, List.length_append, List.length_drop]; omega
  have e3 : (a ++ b).drop (a.length / 64 * 64) = a.drop (a.length / 64 * 64) ++ b := List.drop_append_of_le_length (by omega)
  rw [e1, ← List.drop_drop, e3]
theorem restL_nil : restL [] = [] := rfl
theorem restL_rest (a : List Int) : restL (restL a) = restL a := by
  have := restL_append a []
  rwa [List.append_nil, List.append_nil] at this
theorem mill_nil (hs : List Int) : mill hs [] = hs := rfl
theorem mill_rest (hs a : List Int) : mill (mill hs a) (restL a) = mill hs a := by
  have := mill_append hs a []
  rwa [List.append_nil, List.append_nil] at this
/-- The digest of bytes. -/
def ofL (bs : List Int) : List Int := wr32 (mill v0c.list (bs ++ tailL bs.length)) 32
theorem ofL_len (bs : List Int) : (ofL bs).length = 32 := wr32_len _ _
theorem endL_of (bs : List Int) : endL (mill v0c.list bs) (restL bs) bs.length = ofL bs := by
  unfold endL ofL
  rw [mill_append]
theorem Bytes8.rest {a : List Int} (h : Bytes8 a) : Bytes8 (restL a) := h.drop _

end Go.Proofs.YtfabcdpmnbeflaaDoor
