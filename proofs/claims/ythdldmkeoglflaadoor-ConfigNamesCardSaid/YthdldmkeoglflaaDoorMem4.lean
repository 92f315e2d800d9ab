/- A region that draws, whose operations read and whose callees make memory at most (their results known): walked once. -/
import Derived.Test.YthdldmkeoglflaaDoorMem3
import Derived.Lib.QuietBelow
import Derived.BigQuiet
namespace Go.Proofs.YthdldmkeoglflaaDoor
set_option maxRecDepth 100000
open Go.RowKit Go.Sort

/-- The world with more blocks, and some draws later. -/
def wOn (w : World) (p : Regrown) : World := grow (redrawn w p.d) p.os
theorem below_later (w : World) (p : Regrown) : Below w.heap.size w (wOn w p) := below_regrown w p.d p.os
theorem later_of_below {w w' : World} (h : Below w.heap.size w w') : ∃ p : Regrown, w' = wOn w p := regrown_of_below h
theorem cell_on {w : World} {a : Addr} {v : Value} (h : w.cell? a = some v) (p : Regrown) : (wOn w p).cell? a = some v := cell_regrown h p.d p.os
theorem CellsAt.on {w : World} {a : Option Addr} {cs : List Value} (h : CellsAt w a cs) (p : Regrown) : CellsAt (wOn w p) a cs := h.later (below_later w p)
theorem size_on (w : World) (p : Regrown) : w.heap.size ≤ (wOn w p).heap.size := (below_later w p).size
theorem calls_on {P : Program} {f : FuncId} {args : Array Value} {w : World} {p : Regrown} {v : Value}
    (h : Calls P f args (wOn w p) fun e w' => e = .returned v ∧ Below (wOn w p).heap.size (wOn w p) w') : Calls P f args (wOn w p) fun e w'' => e = .returned v ∧ ∃ q : Regrown, w'' = wOn w q :=
  h.mono fun _ _ ⟨he, hb⟩ => ⟨he, later_of_below (bchain (below_later w p) hb)⟩
theorem wp_region_on {P : Program} {id : Nat} {Q : Exit → Act → World → Prop} {a : Act} {w : World} {l : List Oper} (hm : P.follows .mixedOrders = true) (hB : Region.lexB .any l.toArray = true)
    (h : wpQuiet P l.toArray (fun w' => ∃ p : Regrown, w' = wOn w p) (fun a' => ∀ w', Below w.heap.size w w' → Q .normal a' w') l a) : (Code.region id l.toArray true).wp P Q a w := by
  have e : (fun a' => ∀ w', Below w.heap.size w w' → Q .normal a' w') = (fun a' => ∀ w', (∃ p : Regrown, w' = wOn w p) → Q .normal a' w') := by
    funext a'
    refine propext ⟨fun h w' ⟨p, hp⟩ => h w' (hp ▸ below_later w p), fun h w' hb => h w' (later_of_below hb)⟩
  rw [e] at h
  exact wp_region_quiet (C := fun w' => ∃ p : Regrown, w' = wOn w p) hm hB ⟨⟨w.drawn + 1, #[]⟩, by unfold wOn; rw [grow_empty]; rfl⟩ (by simpa using h)

theorem wp_gen {P : Program} {c : Code} {Q : Exit → Act → World → Prop} {a : Act} {w : World} (h : ∀ w', Below w.heap.size w w' → Code.wp P c Q a w') : Code.wp P c Q a w := h w (Below.refl _ _)

end Go.Proofs.YthdldmkeoglflaaDoor
