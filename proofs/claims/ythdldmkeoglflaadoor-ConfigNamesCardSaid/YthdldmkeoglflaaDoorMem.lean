/- Slices in memory: what a slice reads as; a slice that the call owns (nil, empty, or its own array), and append on it. Of whatever program. -/
import Derived.WalkKit
import Derived.WalkSpells
import Derived.WalkLawsBesides
import Derived.Laws.AppendOwnNone
import Derived.OpenShut
import Derived.Deep.AppendLies
import Derived.Outline
namespace Go.Proofs.YthdldmkeoglflaaDoor
set_option maxRecDepth 100000
open Go.RowKit

/-- The walk halts before an operation: 'go_wp2_with (at_builtin; refine stop ?_)', then 'refine Stop.go ?_'. -/
def Stop (p : Prop) : Prop := p
theorem stop {p : Prop} (h : Stop p) : p := h
theorem Stop.go {p : Prop} (h : p) : Stop p := h
theorem hid {p : Prop} (h : p) : Hid p := h
theorem ret_int {k : IntKind} {a b : Int} (h : a = b) : Ending.returned (.int k a) = .returned (.int k b) := by rw [h]
theorem ret_bool {a b : Bool} (h : a = b) : Ending.returned (.bool a) = .returned (.bool b) := by rw [h]
theorem bchain {w w1 w2 : World} (h : Below w.heap.size w w1) (k : Below w1.heap.size w1 w2) : Below w.heap.size w w2 := h.trans (k.mono h.size)
theorem bcell {W w1 : World} (hb : Below W.heap.size W w1) : (∀ b o, b < W.heap.size → w1.cell? ⟨b, o, none⟩ = W.cell? ⟨b, o, none⟩) ∧ (∀ b o, b < W.heap.size → w1.frozen? ⟨b, o, none⟩ = W.frozen? ⟨b, o, none⟩) :=
  ⟨fun b o h => hb.cell (p := ⟨b, o, none⟩) h, fun b o h => hb.frozen (p := ⟨b, o, none⟩) h⟩
theorem bd_u8 {a : Int} (h : (Lit.int .u8 a).wf = true) : 0 ≤ a ∧ a < 256 := by have := bounds_u8 h; omega
theorem bd_u32 {a : Int} (h : (Lit.int .u32 a).wf = true) : 0 ≤ a ∧ a < 4294967296 := by have := bounds_u32 h; omega
theorem bd_u64 {a : Int} (h : (Lit.int .u64 a).wf = true) : 0 ≤ a ∧ a < 18446744073709551616 := by have := bounds_u64 h; omega
theorem bd_i64 {a : Int} (h : (Lit.int .i64 a).wf = true) : -9223372036854775808 ≤ a ∧ a ≤ 9223372036854775807 := by have := bounds_i64 h; omega

/-- The cells `cs` lie from address `a` on (nothing is asked where there are none). -/
def CellsAt (w : World) (a : Option Addr) (cs : List Value) : Prop :=
  cs = [] ∨ ∃ b o, a = some ⟨b, o, none⟩ ∧ ∀ j u, cs[j]? = some u → w.cell? ⟨b, o + j, none⟩ = some u

theorem CellsAt.below {B : Nat} {w w' : World} {a : Option Addr} {cs : List Value} (h : CellsAt w a cs) (hb : Below B w w') (hB : ∀ b o, a = some ⟨b, o, none⟩ → b < B) : CellsAt w' a cs := by
  rcases h with h | ⟨b, o, ha, h⟩
  · exact .inl h
  · exact .inr ⟨b, o, ha, fun j u hj => (hb.cell (p := ⟨b, o + j, none⟩) (hB b o ha)).trans (h j u hj)⟩
theorem CellsAt.later {w w' : World} {a : Option Addr} {cs : List Value} (h : CellsAt w a cs) (hb : Below w.heap.size w w') : CellsAt w' a cs := by
  rcases h with h | ⟨b, o, ha, h⟩
  · exact .inl h
  · exact .inr ⟨b, o, ha, fun j u hj => cell_later hb (h j u hj)⟩
theorem CellsAt.alloc {w : World} {a : Option Addr} {cs : List Value} (h : CellsAt w a cs) (o : Obj) : CellsAt (w.alloc o) a cs :=
  h.later ((Below.refl _ _).alloc (Nat.le_refl _) _)

theorem CellsAt.drew {w : World} {a : Option Addr} {cs : List Value} (h : CellsAt w a cs) : CellsAt w.drew a cs := h

theorem CellsAt.setFar {w : World} {b o : Nat} {cs : List Value} (h : CellsAt w (some ⟨b, o, none⟩) cs) {p : Addr} (hne : b ≠ p.block) (u : Value) : CellsAt (w.setCell p u) (some ⟨b, o, none⟩) cs := by
  rcases h with h | ⟨b', o', ha, h⟩
  · exact .inl h
  · refine .inr ⟨b', o', ha, fun j x hj => ?_⟩
    rw [← h j x hj]
    refine World.cell?_of_block ?_
    cases ha
    exact Below.heap_setCell _ _ _ _ hne
theorem CellsAt.setFarG {w : World} {a : Option Addr} {cs : List Value} (h : CellsAt w a cs) {p : Addr} (hne : ∀ ad, a = some ad → ad.block ≠ p.block) (u : Value) : CellsAt (w.setCell p u) a cs := by
  rcases h with h | ⟨b', o', rfl, h⟩
  · exact .inl h
  · exact CellsAt.setFar (.inr ⟨b', o', rfl, h⟩) (hne _ rfl) u
theorem CellsAt.tail {w : World} {b o : Nat} {x : Value} {cs : List Value} (h : CellsAt w (some ⟨b, o, none⟩) (x :: cs)) : CellsAt w (some ⟨b, o + 1, none⟩) cs := by
  rcases h with h | ⟨b', o', ha, h⟩
  · cases h
  · cases ha
    exact .inr ⟨_, _, rfl, fun j u hj => by rw [Nat.add_assoc, Nat.add_comm 1 j]; exact h (j + 1) u (by simpa using hj)⟩
theorem cell_drew (w : World) (a : Addr) : w.drew.cell? a = w.cell? a := rfl
theorem frozen_drew (w : World) (a : Addr) : w.drew.frozen? a = w.frozen? a := rfl

/-- A slice value that reads as the integers `xs`. -/
def RowI (k : IntKind) (w : World) (v : Value) (xs : List Int) : Prop :=
  ∃ a c, v = .slice a xs.length c ∧ CellsAt w a (xs.map (Value.int k))

theorem RowI.later {k : IntKind} {w w' : World} {v : Value} {xs : List Int} (h : RowI k w v xs) (hb : Below w.heap.size w w') : RowI k w' v xs := by
  obtain ⟨a, c, hv, h⟩ := h
  exact ⟨a, c, hv, h.later hb⟩
theorem RowI.nil (k : IntKind) (w : World) (a : Option Addr) (c : Nat) : RowI k w (.slice a 0 c) [] := ⟨a, c, rfl, .inl rfl⟩

/-- The cells of a row of integers, in the walk's spelling. -/
theorem CellsAt.int {k : IntKind} {w : World} {a : Option Addr} {xs : List Int} (h : CellsAt w a (xs.map (Value.int k))) (hne : 0 < xs.length) :
    ∃ b o, a = some ⟨b, o, none⟩ ∧ ∀ j, j < xs.length → w.cell? ⟨b, o + j, none⟩ = some (.int k (xs[j]?.getD 0)) := by
  rcases h with h | ⟨b, o, ha, h⟩
  · simp at h; subst h; simp at hne
  · refine ⟨b, o, ha, fun j hj => h j _ ?_⟩
    simp [List.getElem?_map, List.getElem?_eq_getElem hj]

/-- One cell of a row of integers, in a world that has one block more. -/
theorem cell_at {k : IntKind} {w : World} {b o : Nat} {xs : List Int} (h : ∀ j, j < xs.length → w.cell? ⟨b, o + j, none⟩ = some (.int k (xs[j]?.getD 0))) (j : Nat) (x : Int) (hx : xs[j]? = some x) :
    w.cell? ⟨b, o + j, none⟩ = some (.int k x) ∧ b < w.heap.size ∧ b ≠ w.heap.size := by
  have hj : j < xs.length := (List.getElem?_eq_some_iff.1 hx).1
  have h1 := h j hj
  rw [hx] at h1
  have h2 := World.block_lt_of_cell? _ _ h1
  simp only at h2
  exact ⟨h1, h2, by omega⟩

/-- A slice that the call may append to: nil, or a row of its own. -/
def OwnX (w : World) (base : Nat) (e : TypeId) (size : Nat) (v : Value) (n : Nat) (xs : List Value) : Prop := w.ownsRow base e size v n xs

theorem OwnX.nil (w : World) (base e size : Nat) : OwnX w base e size (.slice none 0 0) 0 [] := World.ownsRow_nil _ _ _ _
theorem OwnX.len {w : World} {base e size : Nat} {v : Value} {n : Nat} {xs : List Value} (h : OwnX w base e size v n xs) : xs.length = n * size := h.1
theorem OwnX.lt {w : World} {base e size : Nat} {v : Value} {n : Nat} {xs : List Value} (h : OwnX w base e size v n xs) : ∀ k, v.ownBlock = some k → base ≤ k ∧ k < w.heap.size := World.ownsRow.lt h
theorem OwnX.kept {w w' : World} {base e size : Nat} {v : Value} {n : Nat} {xs : List Value} {row : Option Nat} (h : OwnX w base e size v n xs) (hg : w.grownBy w' row) (hne : v.ownBlock = none ∨ v.ownBlock ≠ row) : OwnX w' base e size v n xs := World.ownsRow.kept h hg hne
theorem OwnX.alloc {w : World} {base e size : Nat} {v : Value} {n : Nat} {xs : List Value} (h : OwnX w base e size v n xs) (o : Obj) : OwnX (w.alloc o) base e size v n xs := World.ownsRow.alloc h o
theorem OwnX.drew {w : World} {base e size : Nat} {v : Value} {n : Nat} {xs : List Value} (h : OwnX w base e size v n xs) : OwnX w.drew base e size v n xs := h
/-- Whatever lies below `B` has stayed; the row lies below `B`. -/
theorem OwnX.below {w w' : World} {B base e size : Nat} {v : Value} {n : Nat} {xs : List Value} (h : OwnX w base e size v n xs) (hb : Below B w w') (hB : ∀ k, v.ownBlock = some k → k < B) : OwnX w' base e size v n xs := by
  refine ⟨h.1, ?_⟩
  rcases h.2 with h2 | ⟨g, cap, cur, rfl, h3, h4, r⟩
  · exact .inl h2
  · exact .inr ⟨g, cap, cur, rfl, h3, by rw [hb.block g (hB g rfl)]; exact h4, r⟩
theorem OwnX.later {w w' : World} {base e size : Nat} {v : Value} {n : Nat} {xs : List Value} (h : OwnX w base e size v n xs) (hb : Below w.heap.size w w') : OwnX w' base e size v n xs :=
  h.below hb (fun k hk => (h.lt k hk).2)
theorem OwnX.setCell {w : World} {base e size : Nat} {v : Value} {n : Nat} {xs : List Value} (h : OwnX w base e size v n xs) {a : Addr} (ha : a.block < base) (u : Value) : OwnX (w.setCell a u) base e size v n xs := ownsRow_setCell_below h ha u
/-- A store into another block. -/
theorem OwnX.setFar {w : World} {base e size : Nat} {v : Value} {n : Nat} {xs : List Value} (h : OwnX w base e size v n xs) {a : Addr} (ha : v.ownBlock ≠ some a.block) (u : Value) : OwnX (w.setCell a u) base e size v n xs := ownsRow_setCell_other h ha u
theorem OwnX.mono {w : World} {base base' e size : Nat} {v : Value} {n : Nat} {xs : List Value} (h : OwnX w base e size v n xs) (hb : base' ≤ base) : OwnX w base' e size v n xs := by
  refine ⟨h.1, ?_⟩
  rcases h.2 with h2 | ⟨g, cap, cur, h2, h3, r⟩
  · exact .inl h2
  · exact .inr ⟨g, cap, cur, h2, Nat.le_trans hb h3, r⟩
/-- What is owned reads as its cells. -/
theorem OwnX.cells {w : World} {base e size : Nat} {v : Value} {n : Nat} {xs : List Value} (h : OwnX w base e size v n xs) : ∃ a c, v = .slice a n c ∧ n ≤ c ∧ CellsAt w a xs := by
  have hl := h.1
  rcases h.2 with ⟨rfl, rfl⟩ | ⟨g, cap, cur, rfl, h3, h4, h5, h6, h7, h8⟩
  · simp at hl
    exact ⟨none, 0, rfl, Nat.le_refl _, .inl hl⟩
  · refine ⟨some ⟨g, 0, none⟩, cap, rfl, h5, .inr ⟨g, 0, rfl, fun j u hj => ?_⟩⟩
    have := World.ownsRow.cells h (g := g) rfl j u hj
    rwa [Addr.add_lit] at this
theorem OwnX.cellsAt {w : World} {base e size : Nat} {a : Option Addr} {m c : Nat} {n : Nat} {xs : List Value} (h : OwnX w base e size (.slice a m c) n xs) : CellsAt w a xs := by
  obtain ⟨a', c', hv, _, hc⟩ := h.cells
  cases hv; exact hc
theorem OwnX.addr {w : World} {base e size : Nat} {a : Option Addr} {m c : Nat} {n : Nat} {xs : List Value} (h : OwnX w base e size (.slice a m c) n xs) : ∀ ad, a = some ad → base ≤ ad.block ∧ ad.block < w.heap.size := by
  intro ad had
  subst had
  exact h.lt ad.block rfl
theorem OwnX.rowI {k : IntKind} {w : World} {base e : Nat} {v : Value} {xs : List Int} (h : OwnX w base e 1 v xs.length (xs.map (Value.int k))) : RowI k w v xs := by
  obtain ⟨a, c, hv, _, hc⟩ := h.cells
  exact ⟨a, c, hv, hc⟩
/-- A new array of the call's own. -/
theorem OwnX.made (w : World) (cur : List Value) (base e n size : Nat) (hb : base ≤ w.heap.size) (hm : n ≤ maxLen) (hs : cur.length = n * size) :
    OwnX (w.alloc (.cells cur.toArray e)) base e size (.slice (some ⟨w.heap.size, 0, none⟩) n n) n cur := by
  refine ⟨hs, .inr ⟨w.heap.size, n, cur.toArray, rfl, hb, heap_alloc_new w _, Nat.le_refl _, hm, by simpa using hs, ?_⟩⟩
  rw [← hs]; simp

theorem cellsAt_news {w : World} {ad : Addr} {news : List Value} (h : CellsAt w (some ad) news) : ∀ j u, news[j]? = some u → w.cell? (ad.add j) = some u := by
  intro j u hj
  rcases h with rfl | ⟨b, o, ha, h⟩
  · simp at hj
  · obtain rfl := Option.some.inj ha
    rw [Addr.add_lit]
    exact h j u hj

section
variable {P : Program} (w : World)
/-- append of nothing. -/
theorem run_append_zero (t ty e : TypeId) (i : TypeInfo) (ht : P.underlying t = some (.slice e)) (hi : P.info? e = some i) (ao bo : Option Addr) (n cap c : Nat) (hn : n ≤ cap) :
    (Builtin.append_ #[t, t] ty #[.slice ao n cap, .slice bo 0 c]).run P w = .ok (.slice ao n cap) w := by
  cases ao <;> cases bo <;> simp [Builtin.append_, run_underlying ht, sizeOf, typeInfo, hi, Builtin.lenOf, hn, Builtin.firstCells, loadCells, loadCellsFrom, storeCells]

/-- append on a slice of the call's own, whatever is appended. -/
theorem run_append_x (base : Nat) (t ty e : TypeId) (i : TypeInfo) (z : Value) (size bytes : Nat) (ht : P.underlying t = some (.slice e)) (hi : P.info? e = some i) (hz : i.zero = some z)
    (hsize : i.size = size) (hby : i.bytes = bytes) (hzs : z.cells.size = size) (hsz : 0 < size)
    (v : Value) (n : Nat) (xs : List Value) (hown : OwnX w base e size v n xs)
    (bo : Option Addr) (m c : Nat) (news : List Value) (hl : news.length = m * size) (hnews : CellsAt w bo news) (h1 : ∀ u ∈ news, u.oneCell' = true)
    (h63 : n + m ≤ maxLen) (hbytes : (n + m) * bytes ≤ 140737488355328) (hbase : base ≤ w.heap.size) :
    ∃ a' c' w', (Builtin.append_ #[t, t] ty #[v, .slice bo m c]).run P w = .ok (.slice a' (n + m) c') w' ∧ OwnX w' base e size (.slice a' (n + m) c') (n + m) (xs ++ news) ∧ w.grownBy w' v.ownBlock ∧
      (∀ k, (Value.slice a' (n + m) c').ownBlock = some k → v.ownBlock = some k ∨ k = w.heap.size) := by
  by_cases hm : m = 0
  · subst hm
    obtain rfl : news = [] := List.eq_nil_of_length_eq_zero (by simpa using hl)
    obtain ⟨ao, cap, hv, hn, _⟩ := hown.cells
    subst hv
    exact ⟨ao, cap, w, run_append_zero w t ty e i ht hi ao bo n cap c hn, by simpa using hown, World.grownBy.refl _ _, fun k hk => .inl hk⟩
  · rcases hnews with rfl | ⟨b, o, rfl, hnews⟩
    · exfalso
      have hl' : m * size = 0 := by simpa using hl.symm
      rcases Nat.mul_eq_zero.1 hl' with h | h <;> omega
    · have hnews' : ∀ j u, news[j]? = some u → w.cell? ((⟨b, o, none⟩ : Addr).add j) = some u := fun j u hj => by rw [Addr.add_lit]; exact hnews j u hj
      obtain ⟨g, cap, w', hr, h2, h3, h4, _⟩ := run_append_lies (P := P) w t ty base e i z size bytes ht hi hz hsize hby hzs hsz v n xs hown _ m c news hl hnews' h1 (by omega) h63 hbytes hbase _ rfl
      refine ⟨_, _, w', hr, h2, h3, fun k hk => ?_⟩
      have : k = g := by simpa [Value.ownBlock] using hk.symm
      subst this
      exact h4

theorem wpList_append_x {ops : Array Oper} {rest : List Oper} {o : Oper} {a : Act} {Q : Exit → Act → World → Prop} (hgd : o.guard = none) (s x : Operand) (t : TypeId)
    (ho : o.op = .call { callee := .builtin .append, args := #[s, x], argTypes := #[t, t] })
    (base : Nat) (e : TypeId) (i : TypeInfo) (z : Value) (size bytes : Nat) (ht : P.underlying t = some (.slice e)) (hi : P.info? e = some i) (hz : i.zero = some z)
    (hsize : i.size = size) (hby : i.bytes = bytes) (hzs : z.cells.size = size) (hsz : 0 < size)
    (v : Value) (n : Nat) (xs : List Value) (hs : a.eval s = v) (hown : OwnX w base e size v n xs)
    (bo : Option Addr) (m c : Nat) (news : List Value) (hx : a.eval x = .slice bo m c) (hl : news.length = m * size) (hnews : CellsAt w bo news) (h1 : ∀ u ∈ news, u.oneCell' = true)
    (h63 : n + m ≤ maxLen) (hbytes : (n + m) * bytes ≤ 140737488355328) (hbase : base ≤ w.heap.size)
    (h : ∀ a' c' w', OwnX w' base e size (.slice a' (n + m) c') (n + m) (xs ++ news) → w.grownBy w' v.ownBlock → (∀ k, (Value.slice a' (n + m) c').ownBlock = some k → v.ownBlock = some k ∨ k = w.heap.size) → wpList P ops Q rest (a.put o.dst (.slice a' (n + m) c')) w') : wpList P ops Q (o :: rest) a w := by
  refine wpList_plain hgd fun K hK => ?_
  obtain ⟨a', c', w', hr, h2, h3, h4⟩ := run_append_x (P := P) w base t o.type e i z size bytes ht hi hz hsize hby hzs hsz v n xs hown bo m c news hl hnews h1 h63 hbytes hbase
  unfold Oper.wp
  simp [execOp, ho, resolve, invoke, builtin, hs, hx, hr, Result.andThen]
  exact hK _ _ (h a' c' w' h2 h3 h4)
/-- At a step of a region that draws its order. -/
theorem step_append_x {ops : Array Oper} {o : Oper} {a : Act} {K : Act → World → Prop} {Q : Exit → Act → World → Prop} {E : Prop} (hgd : o.guard = none) (s x : Operand) (t : TypeId)
    (ho : o.op = .call { callee := .builtin .append, args := #[s, x], argTypes := #[t, t] })
    (base : Nat) (e : TypeId) (i : TypeInfo) (z : Value) (size bytes : Nat) (ht : P.underlying t = some (.slice e)) (hi : P.info? e = some i) (hz : i.zero = some z)
    (hsize : i.size = size) (hby : i.bytes = bytes) (hzs : z.cells.size = size) (hsz : 0 < size)
    (v : Value) (n : Nat) (xs : List Value) (hs : a.eval s = v) (hown : OwnX w base e size v n xs)
    (bo : Option Addr) (m c : Nat) (news : List Value) (hx : a.eval x = .slice bo m c) (hl : news.length = m * size) (hnews : CellsAt w bo news) (h1 : ∀ u ∈ news, u.oneCell' = true)
    (h63 : n + m ≤ maxLen) (hbytes : (n + m) * bytes ≤ 140737488355328) (hbase : base ≤ w.heap.size)
    (h : ∀ a' c' w', OwnX w' base e size (.slice a' (n + m) c') (n + m) (xs ++ news) → w.grownBy w' v.ownBlock → (∀ k, (Value.slice a' (n + m) c').ownBlock = some k → v.ownBlock = some k ∨ k = w.heap.size) → K (a.put o.dst (.slice a' (n + m) c')) w') :
    if Region.wanted o (yielded ops a.tmps) = true then Oper.wp P o a w K Q else E := by
  have hw : Region.wanted o (yielded ops a.tmps) = true := by simp [Region.wanted, hgd]
  rw [if_pos hw]
  obtain ⟨a', c', w', hr, h2, h3, h4⟩ := run_append_x (P := P) w base t o.type e i z size bytes ht hi hz hsize hby hzs hsz v n xs hown bo m c news hl hnews h1 h63 hbytes hbase
  unfold Oper.wp
  simp [execOp, ho, resolve, invoke, builtin, hs, hx, hr, Result.andThen]
  exact h a' c' w' h2 h3 h4
end
theorem below_grownX {base : Nat} {a w w' : World} {v : Value} (h : Below base a w) (hg : w.grownBy w' v.ownBlock) (hB : base ≤ w.heap.size) (hv : ∀ k, v.ownBlock = some k → base ≤ k) : Below base a w' :=
  h.grown hg hB hv
theorem cellsAt_one (w : World) (u : Value) (t : TypeId) : CellsAt (w.alloc (.cells #[u] t)) (some ⟨w.heap.size, 0, none⟩) [u] := by
  refine .inr ⟨_, _, rfl, fun j x hj => ?_⟩
  match j, hj with
  | 0, hj => simp at hj; subst hj; simp
  | j + 1, hj => simp at hj
theorem oneCell_int (k : IntKind) (n : Int) : ∀ u ∈ [Value.int k n], u.oneCell' = true := by intro u hu; simp at hu; subst hu; rfl
/-- The row's block is not a block that was made behind `w0`, unless it was made by the append. -/
theorem own_ne {w0 : World} {base e size : Nat} {v v' : Value} {n : Nat} {xs : List Value} (h : OwnX w0 base e size v n xs) {H b : Nat}
    (hk : ∀ k, v'.ownBlock = some k → v.ownBlock = some k ∨ k = H) (hb : (b < base ∨ w0.heap.size ≤ b) ∧ b < H) : v'.ownBlock ≠ some b := by
  intro e
  rcases hk b e with h1 | h1
  · have := h.lt b h1; omega
  · omega
/-- A new empty row, behind draws; `H`: its number as the walk spells it. -/
theorem own_fresh (w : World) (base e size H : Nat) (hH : w.heap.size = H) (hb : base ≤ H) : OwnX (w.alloc (.cells #[] e)).drew base e size (.slice (some ⟨H, 0, none⟩) 0 0) 0 [] := by
  subst hH
  exact (OwnX.made w [] base e 0 size hb (by simp [maxLen]) (by simp)).drew
/-- What an append on the row of block `H` leaves: all elder cells are as they were. -/
theorem gcell0 {W w1 : World} {H n c : Nat} (hg : W.grownBy w1 (Value.slice (some ⟨H, 0, none⟩) n c).ownBlock) :
    (∀ b o', b < W.heap.size → b < H → w1.cell? ⟨b, o', none⟩ = W.cell? ⟨b, o', none⟩) ∧ (∀ b o', b < W.heap.size → b < H → w1.frozen? ⟨b, o', none⟩ = W.frozen? ⟨b, o', none⟩) ∧ W.heap.size ≤ w1.heap.size := by
  have key : ∀ b, b < W.heap.size → b < H → w1.heap[b]? = W.heap[b]? := fun b hb hH => hg.block b hb (by simp [Value.ownBlock]; omega)
  exact ⟨fun b o' hb hH => World.cell?_of_block (key b hb hH), fun b o' hb hH => World.frozen?_of_block (key b hb hH), hg.size⟩
/-- Behind an append: what is not the row's block reads as it did. `w0`: an earlier world in which the row was owned. -/
theorem gcell {w w1 w0 : World} {base e size : Nat} {v : Value} {n : Nat} {xs : List Value} (hg : w.grownBy w1 v.ownBlock) (h : OwnX w0 base e size v n xs) :
    (∀ b o, b < w.heap.size → (b < base ∨ w0.heap.size ≤ b) → w1.cell? ⟨b, o, none⟩ = w.cell? ⟨b, o, none⟩) ∧ (∀ b o, b < w.heap.size → (b < base ∨ w0.heap.size ≤ b) → w1.frozen? ⟨b, o, none⟩ = w.frozen? ⟨b, o, none⟩) := by
  have key : ∀ b, (b < base ∨ w0.heap.size ≤ b) → some b ≠ v.ownBlock := by
    intro b hb e
    have := h.lt b e.symm
    omega
  exact ⟨fun b o hb hb2 => World.cell?_of_block (hg.block b hb (key b hb2)), fun b o hb hb2 => World.frozen?_of_block (hg.block b hb (key b hb2))⟩

end Go.Proofs.YthdldmkeoglflaaDoor
