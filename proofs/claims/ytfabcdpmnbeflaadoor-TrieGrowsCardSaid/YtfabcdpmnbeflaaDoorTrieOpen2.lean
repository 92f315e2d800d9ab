/- Ids that came in: their block is one of the heap's. -/
import Derived.Test.YtfabcdpmnbeflaaDoorTrieOpen
namespace Go.Proofs.YtfabcdpmnbeflaaDoor
open Go.RowKit Go.Joins Go.ChangeShapes Go.WideShapes Go.ChangeAt
set_option linter.unusedVariables false
set_option linter.unusedSimpArgs false
set_option maxRecDepth 100000

theorem slice_block_lt {P : Program} {w : World} {r : Reach} {b0 : Nat} {t e : TypeId} {a : Option Addr} {n c : Nat} (ht : P.underlying t = some (.slice e)) (hv : Value.okWide P w r b0 t (.slice a n c)) : ∀ x, a = some x → x.block < w.heap.size := by
  rintro x rfl
  simp only [Value.okWide, ht, Cell.okWide, Cell.ok] at hv
  obtain ⟨_, _, _, _, row, cells, hs, _⟩ := hv
  unfold World.shape? at hs
  cases hb : w.heap[x.block]? with
  | none => rw [hb] at hs; simp at hs
  | some o => exact (Array.getElem?_eq_some_iff.1 hb).1
theorem open_idsB {H : Type} {enc : TypeId × Value → H} {w : World} {r : Reach} {b0 base : Nat} {held : Bool} {v : Value} {d : DataW H} {p : List MemPlace}
    (hv : Value.okWide Tryd.prog w r b0 22 v) (h : DataW.Trod enc Tryd.prog w base (fun _ => true) held 22 v d p) :
    ∃ (l : List (List Int)) (a : Option Addr) (c : Nat), v = .slice a l.length c ∧ (IdsIn w a c l ∧ l.length ≤ maxLen ∧ ∀ x, a = some x → x.block < w.heap.size) := by
  obtain ⟨l, a, c, rfl, h1, h2⟩ := open_ids hv h
  exact ⟨l, a, c, rfl, h1, h2, slice_block_lt Tryd.underlying22 hv⟩

end Go.Proofs.YtfabcdpmnbeflaaDoor
