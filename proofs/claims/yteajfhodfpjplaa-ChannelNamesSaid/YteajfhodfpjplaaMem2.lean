/- More on cells that are carried from world to world. -/
import Derived.Test.YteajfhodfpjplaaMem
namespace Go.Proofs.Yteajfhodfpjplaa
open Go.RowKit

theorem frozen_later {w w' : World} {b i : Nat} (hb : Below w.heap.size w w') (hl : b < w.heap.size) (h : w.frozen? ⟨b, i, none⟩ = false) : w'.frozen? ⟨b, i, none⟩ = false :=
  (hb.frozen (p := ⟨b, i, none⟩) hl).trans h

theorem CellsAt.via {w X w' : World} {a : Option Addr} {cs : List Value} (h : CellsAt w a cs) (f : CellsAt w a cs → CellsAt X a cs) (hb : Below X.heap.size X w') : CellsAt w' a cs := (f h).later hb

end Go.Proofs.Yteajfhodfpjplaa
