/- append on a row of the call's own: what was read out of it before is there still. -/
import Derived.Test.YthdldmkeoglflaaDoorMem3
import Derived.Laws.OwnMore
namespace Go.Proofs.YthdldmkeoglflaaDoor
set_option maxRecDepth 100000
open Go.RowKit
set_option linter.unusedVariables false

section
variable {P : Program} (w : World)
theorem run_append_k (base : Nat) (t ty e : TypeId) (i : TypeInfo) (z : Value) (size bytes : Nat) (ht : P.underlying t = some (.slice e)) (hi : P.info? e = some i) (hz : i.zero = some z)
    (hsize : i.size = size) (hby : i.bytes = bytes) (hzs : z.cells.size = size) (hsz : 0 < size)
    (g cap n : Nat) (xs : List Value) (hown : OwnX w base e size (.slice (some ⟨g, 0, none⟩) n cap) n xs)
    (b0 o0 : Nat) (m c : Nat) (news : List Value) (hl : news.length = m * size) (hnews : CellsAt w (some ⟨b0, o0, none⟩) news) (h1 : ∀ u ∈ news, u.oneCell' = true) (hm : 0 < m)
    (h63 : n + m ≤ maxLen) (hbytes : (n + m) * bytes ≤ 140737488355328) (hbase : base ≤ w.heap.size) :
    ∃ a' c' w', (Builtin.append_ #[t, t] ty #[.slice (some ⟨g, 0, none⟩) n cap, .slice (some ⟨b0, o0, none⟩) m c]).run P w = .ok (.slice a' (n + m) c') w' ∧ OwnX w' base e size (.slice a' (n + m) c') (n + m) (xs ++ news) ∧ Below base w w' ∧
      CellsAt w' (some ⟨g, 0, none⟩) xs := by
  obtain ⟨a', c', w', hr, h2, h3, h4⟩ := run_append_x (P := P) w base t ty e i z size bytes ht hi hz hsize hby hzs hsz _ n xs hown (some ⟨b0, o0, none⟩) m c news hl hnews h1 h63 hbytes hbase
  refine ⟨a', c', w', hr, h2, below_grownX (Below.refl _ _) h3 hbase (fun k hk => (hown.lt k hk).1), ?_⟩
  by_cases hroom : n + m ≤ cap
  · obtain ⟨w2, hr2, ho2, _⟩ := run_append_fits (P := P) w base t ty e i size ht hi hsize g n cap xs hown ⟨b0, o0, none⟩ m c news hl (cellsAt_news hnews) h1 hroom
    rw [hr2] at hr
    cases hr
    have hc := OwnX.cellsAt (show OwnX w' base e size (.slice (some ⟨g, 0, none⟩) (n + m) cap) (n + m) (xs ++ news) from ho2)
    rcases hc with hc | ⟨b, o, hb, hc⟩
    · exact .inl (List.append_eq_nil_iff.1 hc).1
    · refine .inr ⟨b, o, hb, fun j u hj => hc j u ?_⟩
      rw [List.getElem?_append_left (List.getElem?_eq_some_iff.1 hj).1]; exact hj
  · have hr2 := run_append_grow (P := P) w t ty e i z ht hi hz ⟨g, 0, none⟩ n cap xs (by rw [hown.len, hsize]) (cellsAt_news hown.cellsAt) ⟨b0, o0, none⟩ m c news (by rw [hl, hsize]) (cellsAt_news hnews) (by omega) (by unfold maxLen at h63; omega) (growslice_fits (by omega) (by rw [hby]; exact hbytes))
    rw [hr2] at hr
    cases hr
    exact CellsAt.alloc (w := w.drew) hown.cellsAt _
/-- At a step of a region that draws its order. -/
theorem step_append_k {ops : Array Oper} {o : Oper} {a : Act} {K : Act → World → Prop} {Q : Exit → Act → World → Prop} {E : Prop} (hgd : o.guard = none) (s x : Operand) (t : TypeId)
    (ho : o.op = .call { callee := .builtin .append, args := #[s, x], argTypes := #[t, t] })
    (base : Nat) (e : TypeId) (i : TypeInfo) (z : Value) (size bytes : Nat) (ht : P.underlying t = some (.slice e)) (hi : P.info? e = some i) (hz : i.zero = some z)
    (hsize : i.size = size) (hby : i.bytes = bytes) (hzs : z.cells.size = size) (hsz : 0 < size)
    (g cap n : Nat) (xs : List Value) (hs : a.eval s = .slice (some ⟨g, 0, none⟩) n cap) (hown : OwnX w base e size (.slice (some ⟨g, 0, none⟩) n cap) n xs)
    (b0 o0 : Nat) (m c : Nat) (news : List Value) (hx : a.eval x = .slice (some ⟨b0, o0, none⟩) m c) (hl : news.length = m * size) (hnews : CellsAt w (some ⟨b0, o0, none⟩) news) (h1 : ∀ u ∈ news, u.oneCell' = true) (hm : 0 < m)
    (h63 : n + m ≤ maxLen) (hbytes : (n + m) * bytes ≤ 140737488355328) (hbase : base ≤ w.heap.size)
    (h : ∀ a' c' w', OwnX w' base e size (.slice a' (n + m) c') (n + m) (xs ++ news) → Below base w w' → CellsAt w' (some ⟨g, 0, none⟩) xs → K (a.put o.dst (.slice a' (n + m) c')) w') :
    if Region.wanted o (yielded ops a.tmps) = true then Oper.wp P o a w K Q else E := by
  have hw : Region.wanted o (yielded ops a.tmps) = true := by simp [Region.wanted, hgd]
  rw [if_pos hw]
  obtain ⟨a', c', w', hr, h2, h3, h4⟩ := run_append_k (P := P) w base t o.type e i z size bytes ht hi hz hsize hby hzs hsz g cap n xs hown b0 o0 m c news hl hnews h1 hm h63 hbytes hbase
  unfold Oper.wp
  simp [execOp, ho, resolve, invoke, builtin, hs, hx, hr, Result.andThen]
  exact h a' c' w' h2 h3 h4
end

end Go.Proofs.YthdldmkeoglflaaDoor
