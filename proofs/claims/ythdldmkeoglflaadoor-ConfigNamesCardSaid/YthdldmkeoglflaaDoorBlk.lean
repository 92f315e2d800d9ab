/- A block that is known whole. Of whatever program. -/
import Derived.Test.YthdldmkeoglflaaDoorMem3
import Derived.Deep.MidRow
import Derived.Laws.Rows
namespace Go.Proofs.YthdldmkeoglflaaDoor
set_option maxRecDepth 100000
set_option linter.unusedVariables false
open Go.RowKit

theorem oneCell_ints (k : IntKind) (xs : List Int) : ∀ u ∈ xs.map (Value.int k), u.oneCell' = true := by
  intro u hu
  obtain ⟨x, _, rfl⟩ := List.mem_map.1 hu
  rfl
/-- Block B holds the cells cs, and may be written. -/
def Blk (w : World) (B : Nat) (t : TypeId) (cs : List Value) : Prop := w.heap[B]? = some (.cells cs.toArray t (0, 0))
theorem Blk.lt {w : World} {B : Nat} {t : TypeId} {cs : List Value} (h : Blk w B t cs) : B < w.heap.size := lt_of_block h
theorem Blk.later {w w' : World} {B : Nat} {t : TypeId} {cs : List Value} (h : Blk w B t cs) (hb : Below w.heap.size w w') : Blk w' B t cs := (hb.block B h.lt).trans h
theorem Blk.below {w w' : World} {B K : Nat} {t : TypeId} {cs : List Value} (h : Blk w B t cs) (hb : Below K w w') (hk : B < K) : Blk w' B t cs := (hb.block B hk).trans h
theorem Blk.drew {w : World} {B : Nat} {t : TypeId} {cs : List Value} (h : Blk w B t cs) : Blk w.drew B t cs := h
theorem Blk.drewN {w : World} {B : Nat} {t : TypeId} {cs : List Value} (h : Blk w B t cs) (n : Nat) : Blk (w.drewN n) B t cs := h
theorem Blk.alloc {w : World} {B : Nat} {t : TypeId} {cs : List Value} (h : Blk w B t cs) (o : Obj) : Blk (w.alloc o) B t cs := h.later ((Below.refl _ _).alloc (Nat.le_refl _) _)
theorem Blk.new (w : World) (n : Nat) (cs : List Value) (t : TypeId) (h : w.heap.size = n) : Blk (w.alloc (.cells cs.toArray t)) n t cs := by subst h; exact heap_alloc_new w _
theorem Blk.newA (w : World) (n : Nat) (a : Array Value) (t : TypeId) (cs : List Value) (h : w.heap.size = n) (ha : a = cs.toArray) : Blk (w.alloc (.cells a t)) n t cs := by subst ha; exact Blk.new w n cs t h
theorem Blk.cell {w : World} {B : Nat} {t : TypeId} {cs : List Value} (h : Blk w B t cs) {j : Nat} {v : Value} (hj : cs[j]? = some v) : w.cell? ⟨B, j, none⟩ = some v := by
  rw [cell_of_row w B j cs.toArray t (0, 0) h]; simpa using hj
theorem Blk.free {w : World} {B : Nat} {t : TypeId} {cs : List Value} (h : Blk w B t cs) (j : Nat) : w.frozen? ⟨B, j, none⟩ = false := by simp [World.frozen?, show w.heap[B]? = _ from h]
theorem Blk.cellI {w : World} {B : Nat} {t : TypeId} {k : IntKind} {xs : List Int} (h : Blk w B t (xs.map (Value.int k))) {j : Nat} (hj : j < xs.length) : w.cell? ⟨B, j, none⟩ = some (.int k (xs[j]?.getD 0)) :=
  h.cell (by simp [List.getElem?_map, List.getElem?_eq_getElem hj])
theorem Blk.setFar {w : World} {B : Nat} {t : TypeId} {cs : List Value} (h : Blk w B t cs) {p : Addr} (hne : B ≠ p.block) (u : Value) : Blk (w.setCell p u) B t cs := (Below.heap_setCell _ _ _ _ hne).trans h
theorem Blk.set {w : World} {B : Nat} {t : TypeId} {cs : List Value} (h : Blk w B t cs) (i : Nat) (v : Value) : Blk (w.setCell ⟨B, i, none⟩ v) B t (cs.set i v) := by
  show (w.setCell ⟨B, i, none⟩ v).heap[B]? = _
  have h' : w.heap[B]? = some (.cells cs.toArray t (0, 0)) := h
  simp [World.setCell, Array.getElem?_modify, h']
theorem Blk.setI {w : World} {B : Nat} {t : TypeId} {k : IntKind} {xs : List Int} (h : Blk w B t (xs.map (Value.int k))) (i : Nat) (x : Int) : Blk (w.setCell ⟨B, i, none⟩ (.int k x)) B t ((xs.set i x).map (Value.int k)) := by
  have := h.set i (.int k x)
  rwa [← List.map_set] at this
theorem Blk.setCells {B : Nat} {t : TypeId} : ∀ (vs cs : List Value) (o : Nat) (w : World), Blk w B t cs → o + vs.length = cs.length → Blk (w.setCells B o vs) B t (cs.take o ++ vs)
  | [], cs, o, w, h, hl => by
    have : cs.take o = cs := List.take_of_length_le (by simpa using Nat.le_of_eq hl.symm)
    rw [this, List.append_nil]; exact h
  | v :: vs, cs, o, w, h, hl => by
    simp only [List.length_cons] at hl
    have h1 := Blk.setCells vs (cs.set o v) (o + 1) _ (h.set o v) (by rw [List.length_set]; omega)
    have h2 : (cs.set o v).take (o + 1) ++ vs = cs.take o ++ v :: vs := by
      rw [List.take_succ_eq_append_getElem (by rw [List.length_set]; omega), List.take_set_of_le (Nat.le_refl _), List.getElem_set_self, List.append_assoc]; rfl
    rw [h2] at h1; exact h1
/-- The whole block stored anew. -/
theorem Blk.setAll {w : World} {B : Nat} {t : TypeId} {cs vs : List Value} (h : Blk w B t cs) (hl : vs.length = cs.length) : Blk (w.setCells B 0 vs) B t vs := by
  have := Blk.setCells vs cs 0 w h (by omega)
  simpa using this
theorem Blk.rangeAt {w : World} {B : Nat} {t : TypeId} {cs : List Value} (h : Blk w B t cs) : w.rangeAt B 0 cs := fun j v hj => by rw [Nat.zero_add]; exact h.cell hj
theorem Blk.there {w : World} {B : Nat} {t : TypeId} {cs : List Value} (h : Blk w B t cs) : w.there B 0 cs.length := fun j hj => by
  rw [Nat.zero_add]
  exact ⟨by rw [h.cell (List.getElem?_eq_getElem hj)]; rfl, h.free j⟩
theorem below_setCells {K : Nat} {w0 : World} {B : Nat} (hB : K ≤ B) : ∀ (vs : List Value) (o : Nat) (w : World), Below K w0 w → Below K w0 (w.setCells B o vs)
  | [], _, _, h => h
  | v :: vs, o, w, h => below_setCells hB vs (o + 1) _ (h.setCell (p := ⟨B, o, none⟩) hB v)
theorem size_setCells {B : Nat} : ∀ (vs : List Value) (o : Nat) (w : World), (w.setCells B o vs).heap.size = w.heap.size
  | [], _, _ => rfl
  | v :: vs, o, w => by
    rw [World.setCells, size_setCells vs (o + 1)]
    simp
theorem Blk.setCellsFar {B C : Nat} {t : TypeId} {cs : List Value} (hne : C ≠ B) : ∀ (vs : List Value) (o : Nat) (w : World), Blk w C t cs → Blk (w.setCells B o vs) C t cs
  | [], _, _, h => h
  | v :: vs, o, w, h => Blk.setCellsFar hne vs (o + 1) _ (h.setFar (p := ⟨B, o, none⟩) hne v)
theorem CellsAt.setCellsFar {B : Nat} {a : Option Addr} {cs : List Value} (hne : ∀ ad, a = some ad → ad.block ≠ B) : ∀ (vs : List Value) (o : Nat) (w : World), CellsAt w a cs → CellsAt (w.setCells B o vs) a cs
  | [], _, _, h => h
  | v :: vs, o, w, h => CellsAt.setCellsFar hne vs (o + 1) _ (h.setFarG (p := ⟨B, o, none⟩) hne v)

theorem cell_far {w : World} {B i : Nat} {x : Value} (h : w.cell? ⟨B, i, none⟩ = some x) {p : Addr} (hne : B ≠ p.block) (u : Value) : (w.setCell p u).cell? ⟨B, i, none⟩ = some x := by
  rw [← h]
  exact World.cell?_of_block (Below.heap_setCell _ _ _ _ hne)
theorem OwnX.laterD {w w' : World} {base e size : Nat} {v : Value} {n : Nat} {xs : List Value} (h : OwnX w base e size v n xs) (hb : Below w.drew.heap.size w.drew w') : OwnX w' base e size v n xs := h.drew.later hb
theorem CellsAt.dropK {w : World} {b o : Nat} {cs : List Value} (h : CellsAt w (some ⟨b, o, none⟩) cs) (k : Nat) : CellsAt w (some ⟨b, o + k, none⟩) (cs.drop k) := by
  rcases h with rfl | ⟨b', o', ha, h⟩
  · left; simp
  · cases ha
    exact .inr ⟨_, _, rfl, fun j u hj => by rw [Nat.add_assoc]; exact h (k + j) u (by rwa [List.getElem?_drop] at hj)⟩
theorem CellsAt.takeK {w : World} {a : Option Addr} {cs : List Value} (h : CellsAt w a cs) (k : Nat) : CellsAt w a (cs.take k) := by
  rcases h with rfl | ⟨b', o', ha, h⟩
  · left; simp
  · exact .inr ⟨_, _, ha, fun j u hj => h j u (by rw [List.getElem?_take] at hj; split at hj; exact hj; cases hj)⟩
section
variable {P : Program}
/-- A load of the whole block. -/
theorem wpList_load_blk {ops : Array Oper} {rest : List Oper} {o : Oper} {a : Act} {w : World} {Q : Exit → Act → World → Prop} (hgd : o.guard = none) (ty : TypeId) (x : Operand) (ho : o.op = .load ty x)
    (B : Nat) (hx : a.eval x = .pointer (some ⟨B, 0, none⟩)) (t : TypeId) (cs : List Value) (d : TypeDesc) (h : Blk w B t cs)
    (hu : P.underlying ty = some d) (hd : (match d with | .struct _ | .array _ _ => true | _ => false) = true) (hi : (P.info? ty).map (·.size) = some cs.length)
    (hK : wpList P ops Q rest (a.put o.dst (.agg cs.toArray)) w) : wpList P ops Q (o :: rest) a w :=
  wpList_load_row hgd ty x ho B hx t cs.toArray (0, 0) d h hu hd (by simpa using hi) hK
/-- A store of the whole block. -/
theorem wpList_store_blk {ops : Array Oper} {rest : List Oper} {o : Oper} {a : Act} {w : World} {Q : Exit → Act → World → Prop} (hgd : o.guard = none) (ty : TypeId) (x y : Operand) (ho : o.op = .store ty x y)
    (B : Nat) (hx : a.eval x = .pointer (some ⟨B, 0, none⟩)) (t : TypeId) (cs vs : List Value) (hy : a.eval y = .agg vs.toArray) (h : Blk w B t cs) (hl : vs.length = cs.length)
    (hi : (P.info? ty).map (·.size) = some vs.length) (h1 : ∀ v ∈ vs, v.oneCell' = true)
    (hK : ∀ w', Blk w' B t vs → w' = w.setCells B 0 vs → wpList P ops Q rest (a.put o.dst undef) w') : wpList P ops Q (o :: rest) a w := by
  refine wpList_store_mid hgd ty x y ho B 0 vs.toArray hx hy ?_ (by simpa using hi) (all_oneCell_toArray h1) (hK _ ?_ (by simp))
  · have := h.there; rw [← hl] at this; simpa using this
  · simpa using h.setAll hl
/-- A result that is the whole block. -/
theorem results_blk {fn : Func} {p : Tmp} {ty : TypeId} (h : fn.results = #[.cell p ty]) (tmps : Array Value) (w : World) (B : Nat) (t : TypeId) (cs : List Value) (d : TypeDesc)
    (hp : tmps.getD p undef = .pointer (some ⟨B, 0, none⟩)) (hg : Blk w B t cs)
    (hu : P.underlying ty = some d) (hd : (match d with | .struct _ | .array _ _ => true | _ => false) = true) (hi : (P.info? ty).map (·.size) = some cs.length) :
    (results fn tmps).run P w = .ok (.agg cs.toArray) w := results_cell_row h tmps w B t cs.toArray (0, 0) d hp hg hu hd (by simpa using hi)
end

end Go.Proofs.YthdldmkeoglflaaDoor
