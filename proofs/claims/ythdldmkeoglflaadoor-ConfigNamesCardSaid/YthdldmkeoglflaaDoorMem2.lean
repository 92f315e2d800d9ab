/- More on cells that are carried from world to world. -/
import Derived.Test.YthdldmkeoglflaaDoorMem
namespace Go.Proofs.YthdldmkeoglflaaDoor
set_option maxRecDepth 100000
open Go.RowKit

theorem frozen_later {w w' : World} {b i : Nat} (hb : Below w.heap.size w w') (hl : b < w.heap.size) (h : w.frozen? ⟨b, i, none⟩ = false) : w'.frozen? ⟨b, i, none⟩ = false :=
  (hb.frozen (p := ⟨b, i, none⟩) hl).trans h

theorem CellsAt.via {w X w' : World} {a : Option Addr} {cs : List Value} (h : CellsAt w a cs) (f : CellsAt w a cs → CellsAt X a cs) (hb : Below X.heap.size X w') : CellsAt w' a cs := (f h).later hb

theorem CellsAt.drewN {w : World} {a : Option Addr} {cs : List Value} (h : CellsAt w a cs) (n : Nat) : CellsAt (w.drewN n) a cs := h
theorem OwnX.drewN {w : World} {base e size : Nat} {v : Value} {n : Nat} {xs : List Value} (h : OwnX w base e size v n xs) (q : Nat) : OwnX (w.drewN q) base e size v n xs := h

end Go.Proofs.YthdldmkeoglflaaDoor
