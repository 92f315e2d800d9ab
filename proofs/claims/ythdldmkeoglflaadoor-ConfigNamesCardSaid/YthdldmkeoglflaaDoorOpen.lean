/- Arguments as they come in: slices of integers. -/
import Derived.Test.YthdldmkeoglflaaDoorMem
import Derived.ProofKit
import Derived.OpenShut
import Derived.Lib.SmallJoins
namespace Go.Proofs.YthdldmkeoglflaaDoor
set_option maxRecDepth 100000
open Go.RowKit Go.ChangeShapes Go.WideShapes Go.ChangeAt

theorem row_of_zs {w : World} {k : IntKind} {a : Addr} {len : Nat} {zs : List Int} (hl : len ≤ zs.length) (hc : ∀ i, i < zs.length → w.cell? (a.add i) = some (.int k (zs.getD i 0))) :
    (zs.take len).length = len ∧ CellsAt w (some a) ((zs.take len).map (Value.int k)) := by
  have h1 : (zs.take len).length = len := by simp; omega
  refine ⟨h1, ?_⟩
  by_cases h0 : len = 0
  · left; subst h0; simp
  · have hsp : a.spot = none := by
      have := hc 0 (by omega)
      unfold Addr.add at this
      simp only [if_true] at this
      cases hs : a.spot with
      | none => rfl
      | some s =>
        exfalso
        unfold World.cell? at this
        split at this <;> simp [hs] at this
    obtain ⟨b, o, s⟩ := a
    simp only at hsp
    subst hsp
    refine .inr ⟨b, o, rfl, fun j u hj => ?_⟩
    have hjl : j < len := by
      have := (List.getElem?_eq_some_iff.1 hj).1
      simp at this; omega
    have := hc j (by omega)
    rw [Addr.add_lit] at this
    rw [this]
    have e : (zs.take len)[j]? = some (zs.getD j 0) := by
      rw [List.getElem?_take, if_pos hjl, List.getD, List.getElem?_eq_getElem (by omega)]; rfl
    rw [List.getElem?_map, e] at hj
    exact hj

section
variable {H : Type} {enc : TypeId × Value → H} {P : Program} {w : World}
/-- A slice of integers that came in. -/
theorem open_rowX {t e : TypeId} {k : IntKind} {base : Nat} {held : Bool} {fuel : Nat} {v : Value} {y : DataW H × List MemPlace} (ht : P.underlying t = some (.slice e)) (he : P.underlying e = some (.int k)) (hc : P.cellsOf e = 1)
    (h : DataW.trod enc P w base (fun _ => true) held fuel t [v] = some y) :
    ∃ (a : Option Addr) (c : Nat) (xs : List Int), v = .slice a xs.length c ∧ CellsAt w a (xs.map (Value.int k)) ∧ xs.length ≤ maxLen ∧ ∀ x ∈ xs, (Lit.int k x).wf = true := by
  rcases open_ints ht he hc h with ⟨hcs, _⟩ | ⟨a, len, cap, zs, hcs, _, hl, hm, hz, _, hcell, hwz⟩
  · simp at hcs
    exact ⟨none, 0, [], hcs, .inl rfl, by simp [maxLen], fun x hx => by simp at hx⟩
  · simp at hcs
    simp at hz
    obtain ⟨h1, h2⟩ := row_of_zs (len := len) (by omega) hcell
    exact ⟨some a, cap, zs.take len, by rw [h1]; exact hcs, h2, by omega, fun x hx => hwz x (List.mem_of_mem_take hx)⟩
end

end Go.Proofs.YthdldmkeoglflaaDoor
