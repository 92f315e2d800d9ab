/- The map of the keys that were seen. -/
import Derived.Test.YthdldmkeoglflaaDoorCfgIdx
import Derived.Maps.Views
import Derived.Maps.OwnOps
namespace Go.Proofs.YthdldmkeoglflaaDoor
set_option maxRecDepth 100000
open Go.RowKit

theorem und_u32 : Tryd.prog.underlying 24 = some (.int .u32) := by kernel_rfl
theorem und_bool : Tryd.prog.underlying 4 = some .bool := by kernel_rfl
theorem und_seen : Tryd.prog.underlying 86 = some (.map 24 4) := by kernel_rfl
/-- An element that reads as a bool's datum is that bool. -/
theorem plainElem_bool_inv {P : Program} {e : TypeId} (he : P.underlying e = some .bool) {v : Value} {x : Bool} {ps : List MemPlace} (h : plainElem (H := Unit) P e v = some (.lit (.bool x), ps)) : v = .bool x := by
  unfold plainElem at h
  rw [he] at h
  cases v <;> simp at h
  rw [h.1]
/-- Block b of w is a map (of at most n entries) whose keys that bear 'true' are those of S. -/
def SeenIn (w : World) (b n : Nat) (S : List Int) : Prop :=
  ∃ D : DataW Unit, w.ownsMap Tryd.prog 24 (plainElem Tryd.prog 4) b n D ∧ Maps.IsMap D ∧ ∀ q : Int, (Lit.int .u32 q).wf = true → D.atKey (.int .u32 q) (.lit (.bool false)) = .lit (.bool (S.contains q))
theorem wf_u32 {q : Int} (h0 : 0 ≤ q) (h4 : q < 4294967296) : (Lit.int .u32 q).wf = true := by
  have e1 : IntKind.u32.min = 0 := by decide
  have e2 : IntKind.u32.max = 4294967295 := by decide
  show (decide (IntKind.u32.min ≤ q) && decide (q ≤ IntKind.u32.max)) = true
  rw [e1, e2, decide_eq_true h0, decide_eq_true (by omega)]
  rfl
theorem SeenIn.made (w : World) : SeenIn (w.alloc (.map #[] 0)) w.heap.size 0 [] :=
  ⟨.map [], World.ownsMap_made w _ _ _, ⟨[], rfl⟩, fun _ _ => rfl⟩
theorem SeenIn.lt {w : World} {b n : Nat} {S : List Int} (h : SeenIn w b n S) : b < w.heap.size := by
  obtain ⟨D, h, _⟩ := h; exact h.lt
theorem SeenIn.heap {w w' : World} {b n : Nat} {S : List Int} (h : SeenIn w b n S) (e : w'.heap[b]? = w.heap[b]?) : SeenIn w' b n S := by
  obtain ⟨D, ⟨es, clock, hb, F, hs, hD⟩, h2⟩ := h
  exact ⟨D, ⟨es, clock, e.trans hb, F, hs, hD⟩, h2⟩
theorem SeenIn.later {w w' : World} {b n : Nat} {S : List Int} (h : SeenIn w b n S) (hb : Below w.heap.size w w') : SeenIn w' b n S := h.heap (hb.block b h.lt)
theorem SeenIn.set {w : World} {b n : Nat} {S : List Int} (h : SeenIn w b n S) {p : Addr} (hne : b ≠ p.block) (v : Value) : SeenIn (w.setCell p v) b n S := h.heap (Below.heap_setCell _ _ _ _ hne)
theorem key_wf {q : Int} (hw : (Lit.int .u32 q).wf = true) : keyOf Tryd.prog 24 (.int .u32 q) = some (.int .u32 q) := Maps.keyOf_int_mk und_u32 hw
theorem SeenIn.lookup {w : World} {b n : Nat} {S : List Int} (h : SeenIn w b n S) (q : Int) (hw : (Lit.int .u32 q).wf = true) :
    (Instr.lookup 86 (.map (some b)) (.int .u32 q) false).run Tryd.prog w = .ok (.bool (S.contains q)) w := by
  obtain ⟨D, hD, _, hat⟩ := h
  have hz : (zeroValue 4).run Tryd.prog w = .ok (.bool false) w := rfl
  obtain ⟨v, ps, hrun, hv⟩ := hD.lookup (Maps.int_keyed und_u32) und_seen hz (plainElem_bool und_bool false) (key_wf hw)
  rw [hat q hw] at hv
  rw [plainElem_bool_inv und_bool hv] at hrun
  exact hrun
theorem SeenIn.update {w : World} {b n : Nat} {S : List Int} (h : SeenIn w b n S) (hn : n < maxLen) (q : Int) (hw : (Lit.int .u32 q).wf = true) :
    ∃ w', (Instr.mapUpdate 86 (.map (some b)) (.int .u32 q) (.bool true)).run Tryd.prog w = .ok () w' ∧ SeenIn w' b (n + 1) (q :: S) ∧ w.grownBy w' (some b) := by
  obtain ⟨D, hD, hm, hat⟩ := h
  obtain ⟨w', hrun, h1, h2⟩ := hD.update (Maps.int_keyed und_u32) und_seen hn (key_wf hw) (plainElem_bool und_bool true)
  refine ⟨w', hrun, ⟨_, h1, ?_, fun z hz => ?_⟩, h2⟩
  · obtain ⟨es, rfl⟩ := hm; exact ⟨_, rfl⟩
  · by_cases he : z = q
    · subst he
      rw [Maps.atKey_put_same hm (by trivial)]
      simp
    · rw [Maps.atKey_put_other (by simpa using he), hat z hz]
      simp [he]
/-- The store at the operation, for the walk (a map's literal stores by 'insert'). -/
theorem wpList_seen {w : World} {ops : Array Oper} {rest : List Oper} {o : Oper} {a : Act} {Q : Exit → Act → World → Prop}
    (hg : o.guard = none) (m x v : Operand) (hop : o.op = Op.mapUpdate 86 m x v ∨ o.op = Op.insert 86 m x v) (b n : Nat) (S : List Int)
    (hm : a.eval m = .map (some b)) (hown : SeenIn w b n S) (hn : n < maxLen) (q : Int) (hx : a.eval x = .int .u32 q) (hv : a.eval v = .bool true) (hw : (Lit.int .u32 q).wf = true)
    (hK : ∀ w', SeenIn w' b (n + 1) (q :: S) → w.grownBy w' (some b) → wpList Tryd.prog ops Q rest (a.put o.dst undef) w') :
    wpList Tryd.prog ops Q (o :: rest) a w := by
  refine wpList_plain hg fun K' hK' => ?_
  obtain ⟨w', hrun, r1, r2⟩ := hown.update hn q hw
  unfold Oper.wp
  rcases hop with hop | hop
  · simp [execOp, hop, hm, hx, hv, hrun, Result.andThen]
    exact hK' _ _ (hK w' r1 r2)
  · simp [execOp, hop, hm, hx, hv, hrun, Result.andThen]
    exact hK' _ _ (hK w' r1 r2)
/-- The look-up at the operation, for the walk. -/
theorem wpList_look {w : World} {ops : Array Oper} {rest : List Oper} {o : Oper} {a : Act} {Q : Exit → Act → World → Prop}
    (hg : o.guard = none) (m x : Operand) (hop : o.op = Op.lookup 86 m x false) (b n : Nat) (S : List Int)
    (hm : a.eval m = .map (some b)) (hown : SeenIn w b n S) (q : Int) (hx : a.eval x = .int .u32 q) (hw : (Lit.int .u32 q).wf = true) (r : Bool) (hr : S.contains q = r)
    (hK : wpList Tryd.prog ops Q rest (a.put o.dst (.bool r)) w) :
    wpList Tryd.prog ops Q (o :: rest) a w := by
  refine wpList_plain hg fun K' hK' => ?_
  have hrun := hown.lookup q hw
  rw [hr] at hrun
  unfold Oper.wp
  simp [execOp, hop, hm, hx, hrun, Result.andThen]
  exact hK' _ _ hK
end Go.Proofs.YthdldmkeoglflaaDoor
