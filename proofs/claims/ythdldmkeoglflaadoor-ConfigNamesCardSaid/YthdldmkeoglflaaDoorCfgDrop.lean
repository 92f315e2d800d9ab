/- The rest of a row of peers. -/
import Derived.Test.YthdldmkeoglflaaDoorCfgOut
namespace Go.Proofs.YthdldmkeoglflaaDoor
set_option maxRecDepth 100000
open Go.RowKit

theorem Blk.cellsRow {w : World} {B : Nat} {t : TypeId} {cs : List Value} (h : Blk w B t cs) : CellsAt w (some ⟨B, 0, none⟩) cs := .inr ⟨B, 0, rfl, fun j u hj => by rw [Nat.zero_add]; exact h.cell hj⟩
theorem dropAt {w : World} {a : Option Addr} {ps : Peers} {c k : Nat} (h : CellsAt w a (cel ps)) (hk : k ≤ ps.length) (hc : ps.length ≤ c) : CellsAt w (if c = k then a else Option.map (fun x => x.add (k * 2)) a) (cel (ps.drop k)) := by
  by_cases he : k = ps.length
  · rw [he, List.drop_length]; exact .inl rfl
  · rw [if_neg (by omega)]
    rcases h with h0 | ⟨b, o, rfl, h1⟩
    · have := cel_len ps; rw [h0] at this; simp at this; omega
    · have h2 := CellsAt.dropK (.inr ⟨b, o, rfl, h1⟩ : CellsAt w (some ⟨b, o, none⟩) (cel ps)) (k * 2)
      rw [cel_drop] at h2
      simpa [Addr.add_lit] using h2
end Go.Proofs.YthdldmkeoglflaaDoor
