/- Rows of the call's own: a store into one; what a row of elements of one cell reads as. -/
import Derived.Test.YthdldmkeoglflaaDoorMem3
import Derived.Test.YthdldmkeoglflaaDoorBlk
namespace Go.Proofs.YthdldmkeoglflaaDoor
set_option maxRecDepth 100000
open Go.RowKit
set_option linter.unusedSimpArgs false
set_option linter.unusedVariables false

theorem OwnX.setAt {w : World} {base e g c n : Nat} {xs : List Value} (h : OwnX w base e 1 (.slice (some ⟨g, 0, none⟩) n c) n xs) {i : Nat} (hi : i < n) (u : Value) :
    OwnX (w.setCell ⟨g, i, none⟩ u) base e 1 (.slice (some ⟨g, 0, none⟩) n c) n (xs.set i u) := by
  refine ⟨by simpa using h.1, ?_⟩
  rcases h.2 with ⟨h1, _⟩ | ⟨g', cap, cur, hv, h3, h4, h5, h6, h7, h8⟩
  · cases h1
  · cases hv
    refine .inr ⟨g, c, cur.setIfInBounds i u, rfl, h3, ?_, h5, h6, by simpa using h7, ?_⟩
    · simp [World.setCell, Array.getElem?_modify, h4]
    · rw [← h8]; simp [List.take_set]
theorem OwnX.at {w : World} {base e c n : Nat} {a : Option Addr} {xs : List Value} (h : OwnX w base e 1 (.slice a n c) n xs) (hn : 0 < n) :
    ∃ b, a = some ⟨b, 0, none⟩ ∧ base ≤ b ∧ b < w.heap.size ∧ (∀ j u, xs[j]? = some u → w.cell? ⟨b, j, none⟩ = some u) ∧ ∀ j, w.frozen? ⟨b, j, none⟩ = false := by
  rcases h.2 with ⟨_, h1⟩ | ⟨b, cap, cur, hv, h3, h4, h5, h6, h7, h8⟩
  · omega
  · cases hv
    have hlt := (h.lt b rfl).2
    refine ⟨b, rfl, h3, hlt, fun j u hj => ?_, fun j => ?_⟩
    · have := World.ownsRow.cells h (g := b) rfl j u hj
      rwa [Addr.add_lit, Nat.zero_add] at this
    · simp [World.frozen?, h4]
theorem gb_cell {w w1 : World} {H : Nat} (h : w.grownBy w1 (some H)) {b : Nat} (hb : b < w.heap.size) (hne : b ≠ H) (o : Nat) : w1.cell? ⟨b, o, none⟩ = w.cell? ⟨b, o, none⟩ :=
  World.cell?_of_block (h.block b hb (fun e => hne (Option.some.inj e)))
theorem gb_own {w w1 : World} {H base e size n : Nat} {v : Value} {xs : List Value} (h : w.grownBy w1 (some H)) (ho : OwnX w base e size v n xs) (hne : v.ownBlock ≠ some H) : OwnX w1 base e size v n xs := ho.kept h (.inr hne)

/-- The world has at least so many blocks. -/
def AtLeast (N : Nat) (w : World) : Prop := N ≤ w.heap.size
theorem AtLeast.later {N : Nat} {w w' : World} (h : AtLeast N w) (hb : Below w.heap.size w w') : AtLeast N w' := Nat.le_trans h hb.size
theorem AtLeast.le {N : Nat} {w : World} (h : AtLeast N w) : N ≤ w.heap.size := h

/-- A later world. -/
def From (W w : World) : Prop := Below W.heap.size W w
theorem From.later {W w w' : World} (h : From W w) (hb : Below w.heap.size w w') : From W w' := bchain h hb
theorem From.out {W w : World} (h : From W w) : Below W.heap.size W w := h
section
variable {P : Program} {ops : Array Oper} {Q : Exit → Act → World → Prop} {a : Act} {w : World} {rest : List Oper} {o : Oper}
theorem wpList_want (hw : Region.wanted o (yielded ops a.tmps) = true) (h : ∀ K : Act → World → Prop, (∀ a w, wpList P ops Q rest a w → K a w) → o.wp P a w K Q) : wpList P ops Q (o :: rest) a w :=
  wpList_step fun K hK => by simp only [hw, if_true]; exact h K hK
/-- A load of the whole block, by an operation that has a guard. -/
theorem wpList_load_blkG (hw : Region.wanted o (yielded ops a.tmps) = true) (ty : TypeId) (x : Operand) (ho : o.op = .load ty x)
    (B : Nat) (hx : a.eval x = .pointer (some ⟨B, 0, none⟩)) (t : TypeId) (cs : List Value) (d : TypeDesc) (h : Blk w B t cs)
    (hu : P.underlying ty = some d) (hd : (match d with | .struct _ | .array _ _ => true | _ => false) = true) (hi : (P.info? ty).map (·.size) = some cs.length)
    (hK : wpList P ops Q rest (a.put o.dst (.agg cs.toArray)) w) : wpList P ops Q (o :: rest) a w :=
  wpList_want hw fun _ hK' => wp_load_row ty x ho B hx t cs.toArray (0, 0) d h hu hd (by simpa using hi) (hK' _ _ hK)
end

end Go.Proofs.YthdldmkeoglflaaDoor
