/- Ids that came in. -/
import Derived.Test.YtfabcdpmnbeflaaDoorTrieB
import Derived.Test.YtfabcdpmnbeflaaDoorDigCard
namespace Go.Proofs.YtfabcdpmnbeflaaDoor
open Go.RowKit Go.Joins Go.ChangeShapes Go.WideShapes Go.ChangeAt
set_option linter.unusedVariables false
set_option linter.unusedSimpArgs false
set_option maxRecDepth 100000

section
variable {H : Type} {enc : TypeId × Value → H} {P : Program} {w : World}
/-- Any slice that came in: its elements' cells, of a form F each; it is no longer than its room. -/
theorem open_rowC {t e : TypeId} {s base : Nat} {held : Bool} {fuel : Nat} {v : Value} {y : DataW H × List MemPlace} (F : List Value → Prop) (ht : P.underlying t = some (.slice e)) (hc : P.cellsOf e = s) (hs : 0 < s)
    (hF : ∀ n cs x, DataW.trod enc P w base (fun _ => true) held n e cs = some x → cs.length = s → F cs)
    (h : DataW.trod enc P w base (fun _ => true) held fuel t [v] = some y) :
    ∃ (a : Option Addr) (c : Nat) (rs : List (List Value)), v = .slice a rs.length c ∧ CellsAt w a rs.flatten ∧ rs.length ≤ maxLen ∧ rs.length ≤ c ∧ ∀ r ∈ rs, r.length = s ∧ F r := by
  have h' := h
  obtain ⟨a, c, rs, h1, h2, h3, h4⟩ := open_rowG F ht hc hs hF h
  refine ⟨a, c, rs, h1, h2, h3, ?_, h4⟩
  rcases Go.Deep.open_slice ht h' with ⟨hcs, _⟩ | ⟨a', len, cap, m, n, D, Pl, hcs, _, hl, _⟩
  · simp at hcs
    rw [h1] at hcs
    simp only [Value.slice.injEq] at hcs
    omega
  · simp at hcs
    rw [h1] at hcs
    simp only [Value.slice.injEq] at hcs
    omega
end
theorem rows_ids : ∀ (rs : List (List Value)), (∀ r ∈ rs, r.length = 32 ∧ ∃ x : List Int, r = idC x ∧ IdIn x) → ∃ l : List (List Int), rs = l.map idC ∧ ∀ x ∈ l, IdIn x
  | [], _ => ⟨[], rfl, fun x h => by simp at h⟩
  | r :: rs, h => by
    obtain ⟨l, e1, e2⟩ := rows_ids rs fun x hx => h x (List.mem_cons_of_mem _ hx)
    obtain ⟨_, x, hr, hx⟩ := h r (List.mem_cons_self ..)
    refine ⟨x :: l, by rw [e1, hr]; rfl, fun y hy => ?_⟩
    rcases List.mem_cons.1 hy with rfl | hy
    · exact hx
    · exact e2 y hy
theorem open_ids {H : Type} {enc : TypeId × Value → H} {w : World} {r : Reach} {b0 base : Nat} {held : Bool} {v : Value} {d : DataW H} {p : List MemPlace}
    (hv : Value.okWide Tryd.prog w r b0 22 v) (h : DataW.Trod enc Tryd.prog w base (fun _ => true) held 22 v d p) :
    ∃ (l : List (List Int)) (a : Option Addr) (c : Nat), v = .slice a l.length c ∧ IdsIn w a c l ∧ l.length ≤ maxLen := by
  obtain ⟨a0, l0, c0, rfl⟩ := okWide_slice Tryd.underlying22 hv
  obtain ⟨fuel, hf⟩ := h
  obtain ⟨a, c, rs, e3, h2, h3, h5, h4⟩ := open_rowC (fun r => ∃ x : List Int, r = idC x ∧ IdIn x) Tryd.underlying22 cells_id (by omega) (fun n cs x hx hl => by
    obtain ⟨zs, e0, hz, wz⟩ := arr_ints Tryd.underlying24 Tryd.underlying5 cells_u8 cells_id hx
    exact ⟨zs, e0, hz, u8_bytes wz⟩) hf
  obtain ⟨l, e4, e5⟩ := rows_ids rs h4
  subst e4
  rw [List.length_map] at e3 h3 h5
  exact ⟨l, a, c, e3, ⟨h2, e5, h5⟩, h3⟩

end Go.Proofs.YtfabcdpmnbeflaaDoor
