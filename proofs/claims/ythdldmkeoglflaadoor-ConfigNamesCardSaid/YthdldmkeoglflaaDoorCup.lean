/- append on a slice of the call's own, or on an empty one without room ('append([]T{}, ..)'): one law for both. -/
import Derived.Test.YthdldmkeoglflaaDoorMem3
namespace Go.Proofs.YthdldmkeoglflaaDoor
set_option maxRecDepth 100000
open Go.RowKit

/-- A row of the call's own, or an empty slice without room. -/
def CupX (w : World) (base : Nat) (e : TypeId) (size : Nat) (v : Value) (n : Nat) (xs : List Value) : Prop :=
  OwnX w base e size v n xs ∨ (n = 0 ∧ xs = [] ∧ ∃ ao, v = .slice ao 0 0)
theorem CupX.zero (w : World) (base e size : Nat) (ao : Option Addr) : CupX w base e size (.slice ao 0 0) 0 [] := .inr ⟨rfl, rfl, ao, rfl⟩
theorem CupX.cells {w : World} {base e size : Nat} {a : Option Addr} {m c n : Nat} {xs : List Value} (h : CupX w base e size (.slice a m c) n xs) : n ≤ c ∧ CellsAt w a xs := by
  rcases h with h | ⟨rfl, rfl, _⟩
  · obtain ⟨_, _, hv, h1, h2⟩ := h.cells
    cases hv; exact ⟨h1, h2⟩
  · exact ⟨Nat.zero_le _, .inl rfl⟩
theorem CupX.addr {w : World} {base e size : Nat} {a : Option Addr} {m c n : Nat} {xs : List Value} (h : CupX w base e size (.slice a m c) n xs) (hx : xs ≠ []) : ∀ ad, a = some ad → base ≤ ad.block ∧ ad.block < w.heap.size := by
  rcases h with h | ⟨_, h, _⟩
  · exact h.addr
  · exact absurd h hx
theorem CupX.alloc {w : World} {base e size : Nat} {v : Value} {n : Nat} {xs : List Value} (h : CupX w base e size v n xs) (o : Obj) : CupX (w.alloc o) base e size v n xs := by
  rcases h with h | h
  · exact .inl (h.alloc o)
  · exact .inr h
theorem CupX.drew {w : World} {base e size : Nat} {v : Value} {n : Nat} {xs : List Value} (h : CupX w base e size v n xs) : CupX w.drew base e size v n xs := h
theorem CupX.later {w w' : World} {base e size : Nat} {v : Value} {n : Nat} {xs : List Value} (h : CupX w base e size v n xs) (hb : Below w.heap.size w w') : CupX w' base e size v n xs := by
  rcases h with h | h
  · exact .inl (h.later hb)
  · exact .inr h

section
variable {P : Program} (w : World)
theorem run_append_cup (base : Nat) (t ty e : TypeId) (i : TypeInfo) (z : Value) (size bytes : Nat) (ht : P.underlying t = some (.slice e)) (hi : P.info? e = some i) (hz : i.zero = some z)
    (hsize : i.size = size) (hby : i.bytes = bytes) (hzs : z.cells.size = size) (hsz : 0 < size)
    (v : Value) (n : Nat) (xs : List Value) (hown : CupX w base e size v n xs)
    (bo : Option Addr) (m c : Nat) (news : List Value) (hl : news.length = m * size) (hnews : CellsAt w bo news) (h1 : ∀ u ∈ news, u.oneCell' = true)
    (h63 : n + m ≤ maxLen) (hbytes : (n + m) * bytes ≤ 140737488355328) (hbase : base ≤ w.heap.size) :
    ∃ a' c' w', (Builtin.append_ #[t, t] ty #[v, .slice bo m c]).run P w = .ok (.slice a' (n + m) c') w' ∧ CupX w' base e size (.slice a' (n + m) c') (n + m) (xs ++ news) ∧ Below base w w' := by
  rcases hown with hown | ⟨rfl, rfl, ao, rfl⟩
  · obtain ⟨a', c', w', hr, h2, h3, _⟩ := run_append_x (P := P) w base t ty e i z size bytes ht hi hz hsize hby hzs hsz v n xs hown bo m c news hl hnews h1 h63 hbytes hbase
    exact ⟨a', c', w', hr, .inl h2, below_grownX (Below.refl _ _) h3 hbase (fun k hk => (hown.lt k hk).1)⟩
  · by_cases hm : m = 0
    · subst hm
      obtain rfl : news = [] := List.eq_nil_of_length_eq_zero (by simpa using hl)
      exact ⟨ao, 0, w, run_append_zero w t ty e i ht hi ao bo 0 0 c (Nat.le_refl _), CupX.zero _ _ _ _ _, Below.refl _ _⟩
    · obtain ⟨a', c', w', hr, h2, h3⟩ := run_append_c0 (P := P) w t ty e i z size bytes ht hi hz hsize hby hzs hsz ao bo m c news hl hnews h1 (by omega) (by simpa using hbytes)
      refine ⟨a', c', w', by simpa using hr, .inl ?_, h3.mono hbase⟩
      simpa using (h2 (by omega)).mono hbase

/-- At a step of a region that draws its order. -/
theorem step_append_cup {ops : Array Oper} {o : Oper} {a : Act} {K : Act → World → Prop} {Q : Exit → Act → World → Prop} {E : Prop} (hgd : o.guard = none) (s x : Operand) (t : TypeId)
    (ho : o.op = .call { callee := .builtin .append, args := #[s, x], argTypes := #[t, t] })
    (base : Nat) (e : TypeId) (i : TypeInfo) (z : Value) (size bytes : Nat) (ht : P.underlying t = some (.slice e)) (hi : P.info? e = some i) (hz : i.zero = some z)
    (hsize : i.size = size) (hby : i.bytes = bytes) (hzs : z.cells.size = size) (hsz : 0 < size)
    (v : Value) (n : Nat) (xs : List Value) (hs : a.eval s = v) (hown : CupX w base e size v n xs)
    (bo : Option Addr) (m c : Nat) (news : List Value) (hx : a.eval x = .slice bo m c) (hl : news.length = m * size) (hnews : CellsAt w bo news) (h1 : ∀ u ∈ news, u.oneCell' = true)
    (N : Nat) (hN : n + m = N) (h63 : N ≤ maxLen) (hbytes : N * bytes ≤ 140737488355328) (hbase : base ≤ w.heap.size)
    (h : ∀ a' c' w', CupX w' base e size (.slice a' N c') N (xs ++ news) → Below base w w' → K (a.put o.dst (.slice a' N c')) w') :
    if Region.wanted o (yielded ops a.tmps) = true then Oper.wp P o a w K Q else E := by
  subst hN
  have hw : Region.wanted o (yielded ops a.tmps) = true := by simp [Region.wanted, hgd]
  rw [if_pos hw]
  obtain ⟨a', c', w', hr, h2, h3⟩ := run_append_cup (P := P) w base t o.type e i z size bytes ht hi hz hsize hby hzs hsz v n xs hown bo m c news hl hnews h1 h63 hbytes hbase
  unfold Oper.wp
  simp [execOp, ho, resolve, invoke, builtin, hs, hx, hr, Result.andThen]
  exact h a' c' w' h2 h3
theorem wpList_append_cup {ops : Array Oper} {rest : List Oper} {o : Oper} {a : Act} {Q : Exit → Act → World → Prop} (hgd : o.guard = none) (s x : Operand) (t : TypeId)
    (ho : o.op = .call { callee := .builtin .append, args := #[s, x], argTypes := #[t, t] })
    (base : Nat) (e : TypeId) (i : TypeInfo) (z : Value) (size bytes : Nat) (ht : P.underlying t = some (.slice e)) (hi : P.info? e = some i) (hz : i.zero = some z)
    (hsize : i.size = size) (hby : i.bytes = bytes) (hzs : z.cells.size = size) (hsz : 0 < size)
    (v : Value) (n : Nat) (xs : List Value) (hs : a.eval s = v) (hown : CupX w base e size v n xs)
    (bo : Option Addr) (m c : Nat) (news : List Value) (hx : a.eval x = .slice bo m c) (hl : news.length = m * size) (hnews : CellsAt w bo news) (h1 : ∀ u ∈ news, u.oneCell' = true)
    (N : Nat) (hN : n + m = N) (h63 : N ≤ maxLen) (hbytes : N * bytes ≤ 140737488355328) (hbase : base ≤ w.heap.size)
    (h : ∀ a' c' w', CupX w' base e size (.slice a' N c') N (xs ++ news) → Below base w w' → wpList P ops Q rest (a.put o.dst (.slice a' N c')) w') : wpList P ops Q (o :: rest) a w := by
  subst hN
  refine wpList_plain hgd fun K hK => ?_
  obtain ⟨a', c', w', hr, h2, h3⟩ := run_append_cup (P := P) w base t o.type e i z size bytes ht hi hz hsize hby hzs hsz v n xs hown bo m c news hl hnews h1 h63 hbytes hbase
  unfold Oper.wp
  simp [execOp, ho, resolve, invoke, builtin, hs, hx, hr, Result.andThen]
  exact hK _ _ (h a' c' w' h2 h3)

/-- 's[k:]' of a row of cells of size one, behind one name for its address. -/
theorem slice_from {t : TypeId} (ht : P.underlying t = some (.slice (P.elem t))) (hsz : ∀ w, (sizeOf (P.elem t)).run P w = .ok 1 w) (b o len cap : Nat) (k : Nat) (hk : k ≤ len) (hc : len ≤ cap) :
    ∃ ad : Addr, (∀ w', (Instr.slice t (.slice (some ⟨b, o, none⟩) len cap) (some (.int .i64 k)) none none).run P w' = .ok (.slice (some ad) (len - k) (cap - k)) w') ∧ ad.block = b ∧ (k < len → ad = ⟨b, o + k, none⟩) := by
  by_cases h : cap = k
  · refine ⟨⟨b, o, none⟩, fun w' => ?_, rfl, fun h' => by omega⟩
    rw [run_slice_l w' t _ _ _ ht .i64 k (by omega) (by omega), hsz]
    simp [Result.andThen, sliced, h]
  · refine ⟨⟨b, o + k, none⟩, fun w' => ?_, rfl, fun _ => rfl⟩
    rw [run_slice_l w' t _ _ _ ht .i64 k (by omega) (by omega), hsz]
    simp [Result.andThen, sliced, h, Addr.add_lit]
end

end Go.Proofs.YthdldmkeoglflaaDoor
