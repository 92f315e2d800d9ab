/- What slices.Insert and its kin need: copy into a row of the call's own, append of zeros that grows, overlaps. Of whatever program; elements of any number of cells. -/
import Derived.Test.YthdldmkeoglflaaDoorMem4
import Derived.Laws.CopyRow
import Derived.Laws.CopyOwn
import Derived.Lib.AppendZeros
import Derived.Lib.Overlaps
import Derived.Deep.RegionLaw
namespace Go.Proofs.YthdldmkeoglflaaDoor
set_option maxRecDepth 100000
open Go.RowKit
set_option linter.unusedSimpArgs false
set_option linter.unusedVariables false

theorem ins_list {α : Type} (sz : Nat) (L news : List α) (n i : Nat) (hin : i < n) (hl : (n + 1) * sz ≤ L.length) (hn : news.length = sz) :
    ((((L.take ((i + 1) * sz) ++ (L.take (n * sz)).drop (i * sz) ++ L.drop ((i + 1) * sz + (n - i) * sz)).toArray.toList.take (i * sz) ++ news ++ (L.take ((i + 1) * sz) ++ (L.take (n * sz)).drop (i * sz) ++ L.drop ((i + 1) * sz + (n - i) * sz)).toArray.toList.drop (i * sz + sz)).toArray).toList.take ((n + 1) * sz)) = (L.take (n * sz)).take (i * sz) ++ news ++ (L.take (n * sz)).drop (i * sz) := by
  dsimp only
  have h1 : (i + 1) * sz = i * sz + sz := by rw [Nat.add_mul]; omega
  have h2 : n * sz = i * sz + (n - i) * sz := by rw [← Nat.add_mul]; congr 1; omega
  have h3 : (n + 1) * sz = i * sz + sz + (n - i) * sz := by rw [Nat.add_mul, h2]; omega
  have h4 : (i + 1) * sz ≤ n * sz := Nat.mul_le_mul_right _ hin
  generalize hB : (L.take (n * sz)).drop (i * sz) = B
  have hBl : B.length = (n - i) * sz := by rw [← hB, List.length_drop, List.length_take]; omega
  generalize L.drop ((i + 1) * sz + (n - i) * sz) = D
  have hT : (L.take ((i + 1) * sz)).length = i * sz + sz := by rw [List.length_take]; omega
  have e1 : (L.take ((i + 1) * sz) ++ B ++ D).take (i * sz) = L.take (i * sz) := by
    rw [List.append_assoc, List.take_append_of_le_length (by omega), List.take_take, Nat.min_eq_left (by omega)]
  have e2 : (L.take ((i + 1) * sz) ++ B ++ D).drop (i * sz + sz) = B ++ D := by
    rw [List.append_assoc, ← hT, List.drop_left]
  have e3 : (L.take (n * sz)).take (i * sz) = L.take (i * sz) := by rw [List.take_take, Nat.min_eq_left (by omega)]
  rw [e1, e2, e3, ← List.append_assoc]
  have hA : (L.take (i * sz) ++ news ++ B).length = (n + 1) * sz := by
    rw [List.length_append, List.length_append, List.length_take, hBl, hn]; omega
  rw [← hA, List.take_left]
theorem ins_list2 {α : Type} (sz : Nat) (L A news B : List α) (n i : Nat) (hin : i < n) (hl : (n + 1) * sz ≤ L.length) (hn : news.length = sz) (hA : L.take (i * sz) = A) (hB : B.length = (n - i) * sz) :
    (((L.take (i * sz) ++ news ++ L.drop (i * sz + news.length)).toArray.toList.take ((i + 1) * sz) ++ B ++ (L.take (i * sz) ++ news ++ L.drop (i * sz + news.length)).toArray.toList.drop ((i + 1) * sz + B.length)).toArray).toList.take ((n + 1) * sz) = A ++ news ++ B := by
  dsimp only
  have h1 : (i + 1) * sz = i * sz + sz := by rw [Nat.add_mul]; omega
  have h2 : n * sz = i * sz + (n - i) * sz := by rw [← Nat.add_mul]; congr 1; omega
  have h3 : (n + 1) * sz = i * sz + sz + (n - i) * sz := by rw [Nat.add_mul, h2]; omega
  have hAl : A.length = i * sz := by rw [← hA, List.length_take]; omega
  rw [hA]
  generalize L.drop (i * sz + news.length) = D
  have e1 : (A ++ news ++ D).take ((i + 1) * sz) = A ++ news := by
    have : (A ++ news).length = (i + 1) * sz := by rw [List.length_append]; omega
    rw [← this, List.take_left]
  rw [e1]
  have e2 : (A ++ news ++ B).length = (n + 1) * sz := by
    rw [List.length_append, List.length_append, hn]; omega
  rw [← e2, List.take_left]

section
variable {P : Program}
theorem run_copy_rowS (w : World) (dT sT ty elem : TypeId) (i : TypeInfo) (hi : P.info? elem = some i) (size : Nat) (hsz : i.size = size) (g o dLen dCap : Nat) (a : Addr) (sLen sCap : Nat) (cur : Array Value) (t : TypeId) (cs : List Value) (k : Nat)
    (hu : P.underlying dT = some (.slice elem))
    (hg : w.heap[g]? = some (.cells cur t (0, 0))) (hk : k = Nat.min sLen dLen) (hn : cs.length = k * size)
    (hsrc : ∀ j v, cs[j]? = some v → w.cell? (a.add j) = some v) (hfit : o + cs.length ≤ cur.size) (h1 : ∀ v ∈ cs, v.oneCell' = true) :
    (Builtin.copy_ #[dT, sT] ty #[.slice (some ⟨g, o, none⟩) dLen dCap, .slice (some a) sLen sCap]).run P w =
      .ok (goInt k) (w.setRow g (cur.toList.take o ++ cs ++ cur.toList.drop (o + cs.length)).toArray) := by
  have hl := run_loadCells_list (P := P) w a cs hsrc
  have hst := run_storeCells_at P g o t cs 0 cur w hg (by simpa using hfit) h1
  subst hsz
  rw [hn] at hl
  simp [Builtin.copy_, run_underlying hu, Builtin.lenOf, Builtin.firstCells, sizeOf, typeInfo, hi, ← hk, hl, hst]

theorem wp_copy_run (w : World) {o : Oper} {a : Act} {K : Act → World → Prop} {Q : Exit → Act → World → Prop} (d s : Operand) (t t' : TypeId)
    (ho : o.op = .call { callee := .builtin .copy, args := #[d, s], argTypes := #[t, t'] }) (v u : Value) (hd : a.eval d = v) (hs : a.eval s = u) {v' : Value} {w' : World}
    (hr : (Builtin.copy_ #[t, t'] o.type #[v, u]).run P w = .ok v' w') (h : K (a.put o.dst v') w') : o.wp P a w K Q := by
  unfold Oper.wp execOp
  simp only [ho, resolve, invoke, builtin, Sem.run_bind, Sem.run_pure, Result.andThen_ok, List.map_toArray, List.map_cons, List.map_nil, hd, hs, hr]
  exact h
theorem wpList_copy_run (w : World) {ops : Array Oper} {rest : List Oper} {o : Oper} {a : Act} {Q : Exit → Act → World → Prop} (hgd : o.guard = none) (d s : Operand) (t t' : TypeId)
    (ho : o.op = .call { callee := .builtin .copy, args := #[d, s], argTypes := #[t, t'] }) (v u : Value) (hd : a.eval d = v) (hs : a.eval s = u) {v' : Value} {w' : World}
    (hr : (Builtin.copy_ #[t, t'] o.type #[v, u]).run P w = .ok v' w') (h : wpList P ops Q rest (a.put o.dst v') w') : wpList P ops Q (o :: rest) a w :=
  wpList_plain hgd fun _ hK => wp_copy_run w d s t t' ho v u hd hs hr (hK _ _ h)
theorem step_copy_run {ops : Array Oper} {o : Oper} {a : Act} {w : World} {K : Act → World → Prop} {Q : Exit → Act → World → Prop} {E : Prop}
    (hg : o.guard = none) (d x : Operand) (dT sT : TypeId) (hop : o.op = Op.call { callee := Callee.builtin Builtin.copy, args := #[d, x], argTypes := #[dT, sT] })
    (v u : Value) (hd : a.eval d = v) (hx : a.eval x = u) {v' : Value} {w' : World} (hr : (Builtin.copy_ #[dT, sT] o.type #[v, u]).run P w = .ok v' w') (hK : K (a.put o.dst v') w') :
    if Region.wanted o (yielded ops a.tmps) = true then Oper.wp P o a w K Q else E := by
  have hw : Region.wanted o (yielded ops a.tmps) = true := by simp [Region.wanted, hg]
  rw [if_pos hw]
  exact wp_copy_run w d x dT sT hop v u hd hx hr hK

/-- append of zeros onto a slice without room for them: a new row. -/
theorem run_append_zerosG (w : World) (t tn ty e : TypeId) (i : TypeInfo) (z : Value) (k kn : IntKind) (ht : P.underlying t = some (.slice e)) (htn : P.underlying tn = some (.int kn)) (hi : P.info? e = some i) (hz : i.zero = some z)
    (a : Addr) (sLen sCap n : Nat) (cs : List Value) (hcs : cs.length = sLen * i.size) (hsrc : ∀ j v, cs[j]? = some v → w.cell? (a.add j) = some v)
    (h0 : 0 < n) (hs : 0 < i.size) (hgr : sCap < sLen + n) (h63 : sLen + n ≤ maxLen) (h48 : (sLen + n) * i.bytes ≤ 140737488355328) :
    (Builtin.append_ #[t, tn] ty #[.slice (some a) sLen sCap, .int k n]).run P w =
      .ok (.slice (some ⟨w.heap.size, 0, none⟩) (sLen + n) (grownCap w (sLen + n) sCap e)) (w.drew.alloc (.cells (cs.toArray ++ Builtin.zeroCells z.cells n ++ Builtin.zeroCells z.cells (grownCap w (sLen + n) sCap e - (sLen + n))) e)) := by
  unfold maxLen at h63
  have hn : n ≠ 0 := by omega
  have hw : IntKind.i64.wrap (n : Int) = n := by rw [IntKind.wrap_i64]; omega
  have h48' : ¬ (281474976710656 < Builtin.nextslicecap (sLen + n) sCap * i.bytes) := by
    have := growslice_fits hgr h48; omega
  have h48n : n * i.bytes ≤ 140737488355328 := Nat.le_trans (Nat.mul_le_mul_right _ (by omega)) h48
  have h48i : ¬ (281474976710656 < (n : Int) * (i.bytes : Int)) := by
    rw [← Int.natCast_mul]
    omega
  have hneg : ¬ ((n : Int) < 0) := by omega
  have hns : ¬ (n * i.size = 0) := Nat.mul_ne_zero hn (by omega)
  have hroom : ¬ (sLen + n ≤ sCap) := by omega
  have h63' : ¬ (9223372036854775807 < (sLen : Int) + (n : Int)) := by omega
  have hl := run_loadCells_list (P := P) w.drew a cs hsrc
  rw [hcs] at hl
  simp [Builtin.append_, run_underlying ht, run_underlying htn, sizeOf, typeInfo, zeroValue, hi, hz, asInt, asIntOf, hw, hn, hneg, hns, h63', h48', h48i, hroom, Question.forced, Builtin.firstCells, hl, newRow, grownCap]
end

end Go.Proofs.YthdldmkeoglflaaDoor
