/- append on an empty slice without room ('append([]T{}, xs...)'), whatever its address. -/
import Derived.Test.YthdldmkeoglflaaDoorMem2
namespace Go.Proofs.YthdldmkeoglflaaDoor
set_option maxRecDepth 100000
open Go.RowKit

section
variable {P : Program} (w : World)
theorem run_append_c0 (t ty e : TypeId) (i : TypeInfo) (z : Value) (size bytes : Nat) (ht : P.underlying t = some (.slice e)) (hi : P.info? e = some i) (hz : i.zero = some z)
    (hsize : i.size = size) (hby : i.bytes = bytes) (hzs : z.cells.size = size) (hsz : 0 < size)
    (ao bo : Option Addr) (m c : Nat) (news : List Value) (hl : news.length = m * size) (hnews : CellsAt w bo news) (h1 : ∀ u ∈ news, u.oneCell' = true)
    (h63 : m ≤ maxLen) (hbytes : m * bytes ≤ 140737488355328) :
    ∃ a' c' w', (Builtin.append_ #[t, t] ty #[.slice ao 0 0, .slice bo m c]).run P w = .ok (.slice a' m c') w' ∧ (0 < m → OwnX w' w.heap.size e size (.slice a' m c') m news) ∧ Below w.heap.size w w' := by
  by_cases hm : m = 0
  · subst hm
    exact ⟨ao, 0, w, run_append_zero w t ty e i ht hi ao bo 0 0 c (Nat.le_refl _), fun h => by omega, Below.refl _ _⟩
  · obtain ⟨a', c', w', hr, h2, h3, h4⟩ := run_append_x (P := P) w w.heap.size t ty e i z size bytes ht hi hz hsize hby hzs hsz (.slice none 0 0) 0 [] (OwnX.nil _ _ _ _) bo m c news hl hnews h1 (by omega) (by simpa using hbytes) (Nat.le_refl _)
    simp only [Nat.zero_add, List.nil_append] at hr h2 h4
    refine ⟨a', c', w', ?_, fun _ => h2, below_grownX (Below.refl _ _) h3 (Nat.le_refl _) (fun k hk => by simp [Value.ownBlock] at hk)⟩
    rw [← hr]
    cases ao with
    | none => rfl
    | some ad =>
      have hb : i.bytes * 1 = i.bytes := Nat.mul_one _
      have hcap : ¬ (281474976710656 : Nat) < Builtin.nextslicecap m 0 * i.bytes := by
        have : Builtin.nextslicecap m 0 = m := by unfold Builtin.nextslicecap; rw [if_pos (by omega)]
        rw [this, hby]; omega
      simp [Builtin.append_, run_underlying ht, sizeOf, typeInfo, hi, Builtin.lenOf, Builtin.firstCells, loadCells, loadCellsFrom, hm, hcap]
theorem step_append_c0 {ops : Array Oper} {o : Oper} {a : Act} {K : Act → World → Prop} {Q : Exit → Act → World → Prop} {E : Prop} (hgd : o.guard = none) (s x : Operand) (t : TypeId)
    (ho : o.op = .call { callee := .builtin .append, args := #[s, x], argTypes := #[t, t] })
    (e : TypeId) (i : TypeInfo) (z : Value) (size bytes : Nat) (ht : P.underlying t = some (.slice e)) (hi : P.info? e = some i) (hz : i.zero = some z)
    (hsize : i.size = size) (hby : i.bytes = bytes) (hzs : z.cells.size = size) (hsz : 0 < size)
    (ao : Option Addr) (hs : a.eval s = .slice ao 0 0)
    (bo : Option Addr) (m c : Nat) (news : List Value) (hx : a.eval x = .slice bo m c) (hl : news.length = m * size) (hnews : CellsAt w bo news) (h1 : ∀ u ∈ news, u.oneCell' = true)
    (h63 : m ≤ maxLen) (hbytes : m * bytes ≤ 140737488355328)
    (h : ∀ a' c' w', (0 < m → OwnX w' w.heap.size e size (.slice a' m c') m news) → Below w.heap.size w w' → K (a.put o.dst (.slice a' m c')) w') :
    if Region.wanted o (yielded ops a.tmps) = true then Oper.wp P o a w K Q else E := by
  have hw : Region.wanted o (yielded ops a.tmps) = true := by simp [Region.wanted, hgd]
  rw [if_pos hw]
  obtain ⟨a', c', w', hr, h2, h3⟩ := run_append_c0 (P := P) w t o.type e i z size bytes ht hi hz hsize hby hzs hsz ao bo m c news hl hnews h1 h63 hbytes
  unfold Oper.wp
  simp [execOp, ho, resolve, invoke, builtin, hs, hx, hr, Result.andThen]
  exact h a' c' w' h2 h3
end

end Go.Proofs.YthdldmkeoglflaaDoor
