/- append on a row of the call's own: the elder slice is a row of the call's own still. -/
import Derived.Test.YthdldmkeoglflaaDoorAppK
namespace Go.Proofs.YthdldmkeoglflaaDoor
set_option maxRecDepth 100000
open Go.RowKit
set_option linter.unusedVariables false

/-- A row of which only the first elements are looked at. -/
theorem OwnX.prefix {w : World} {base e size : Nat} {g n m cap : Nat} {xs ys : List Value} (h : OwnX w base e size (.slice (some ⟨g, 0, none⟩) (n + m) cap) (n + m) (xs ++ ys)) (hx : xs.length = n * size) :
    OwnX w base e size (.slice (some ⟨g, 0, none⟩) n cap) n xs := by
  refine ⟨hx, ?_⟩
  rcases h.2 with ⟨h1, _⟩ | ⟨g', cap', cur, hv, h3, h4, h5, h6, h7, h8⟩
  · cases h1
  · cases hv
    refine .inr ⟨g, cap, cur, rfl, h3, h4, by omega, h6, h7, ?_⟩
    have e1 : cur.toList.take (n * size) = (cur.toList.take ((n + m) * size)).take (n * size) := by
      rw [List.take_take, Nat.min_eq_left (Nat.mul_le_mul_right _ (by omega))]
    rw [e1, h8, ← hx]
    exact List.take_left
section
variable {P : Program} (w : World)
theorem run_append_y (base : Nat) (t ty e : TypeId) (i : TypeInfo) (z : Value) (size bytes : Nat) (ht : P.underlying t = some (.slice e)) (hi : P.info? e = some i) (hz : i.zero = some z)
    (hsize : i.size = size) (hby : i.bytes = bytes) (hzs : z.cells.size = size) (hsz : 0 < size)
    (v : Value) (n : Nat) (xs : List Value) (hown : OwnX w base e size v n xs)
    (bo : Option Addr) (m c : Nat) (news : List Value) (hl : news.length = m * size) (hnews : CellsAt w bo news) (h1 : ∀ u ∈ news, u.oneCell' = true)
    (h63 : n + m ≤ maxLen) (hbytes : (n + m) * bytes ≤ 140737488355328) (hbase : base ≤ w.heap.size) :
    ∃ a' c' w', (Builtin.append_ #[t, t] ty #[v, .slice bo m c]).run P w = .ok (.slice a' (n + m) c') w' ∧ OwnX w' base e size (.slice a' (n + m) c') (n + m) (xs ++ news) ∧ w.grownBy w' v.ownBlock ∧
      (∀ k, (Value.slice a' (n + m) c').ownBlock = some k → v.ownBlock = some k ∨ k = w.heap.size) ∧ OwnX w' base e size v n xs := by
  obtain ⟨a', c', w', hr, h2, h3, h4⟩ := run_append_x (P := P) w base t ty e i z size bytes ht hi hz hsize hby hzs hsz v n xs hown bo m c news hl hnews h1 h63 hbytes hbase
  refine ⟨a', c', w', hr, h2, h3, h4, ?_⟩
  by_cases hm : m = 0
  · subst hm
    obtain rfl : news = [] := List.eq_nil_of_length_eq_zero (by simpa using hl)
    obtain ⟨ao, cap, hv, hn, _⟩ := hown.cells
    subst hv
    have := run_append_zero (P := P) w t ty e i ht hi ao bo n cap c hn
    rw [this] at hr
    cases hr
    exact hown
  · rcases hown.2 with ⟨rfl, rfl⟩ | ⟨g, cap, cur, rfl, k3, k4, k5, k6, k7, k8⟩
    · have hx : xs = [] := List.eq_nil_of_length_eq_zero (by have := hown.1; simpa using this)
      subst hx
      exact OwnX.nil _ _ _ _
    · rcases hnews with rfl | ⟨b0, o0, rfl, hnews⟩
      · exfalso
        have hl' : m * size = 0 := by simpa using hl.symm
        rcases Nat.mul_eq_zero.1 hl' with h | h <;> omega
      · have hnews : CellsAt w (some ⟨b0, o0, none⟩) news := .inr ⟨b0, o0, rfl, hnews⟩
        by_cases hroom : n + m ≤ cap
        · obtain ⟨w2, hr2, ho2, _⟩ := run_append_fits (P := P) w base t ty e i size ht hi hsize g n cap xs hown ⟨b0, o0, none⟩ m c news hl (cellsAt_news hnews) h1 hroom
          rw [hr2] at hr
          have e2 : w2 = w' := by cases hr; rfl
          subst e2
          exact OwnX.prefix (cap := cap) ho2 hown.1
        · have hr2 := run_append_grow (P := P) w t ty e i z ht hi hz ⟨g, 0, none⟩ n cap xs (by rw [hown.len, hsize]) (cellsAt_news hown.cellsAt) ⟨b0, o0, none⟩ m c news (by rw [hl, hsize]) (cellsAt_news hnews) (by omega) (by unfold maxLen at h63; omega) (growslice_fits (by omega) (by rw [hby]; exact hbytes))
          rw [hr2] at hr
          cases hr
          exact OwnX.alloc (w := w.drew) hown.drew _
end

end Go.Proofs.YthdldmkeoglflaaDoor
