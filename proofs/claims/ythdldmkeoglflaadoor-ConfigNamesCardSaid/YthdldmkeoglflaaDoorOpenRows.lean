/- A slice that came in, whatever its elements are. -/
import Derived.Test.YthdldmkeoglflaaDoorOpen
import Derived.Deep.Slices
namespace Go.Proofs.YthdldmkeoglflaaDoor
set_option maxRecDepth 100000
open Go.RowKit Go.ChangeShapes Go.WideShapes Go.ChangeAt

theorem flat_len {s : Nat} : ∀ (rs : List (List Value)), (∀ r ∈ rs, r.length = s) → rs.flatten.length = rs.length * s
  | [], _ => by simp
  | r :: rs, h => by
    rw [List.flatten_cons, List.length_append, flat_len rs (fun x hx => h x (List.mem_cons_of_mem _ hx)), h r (List.mem_cons_self ..), List.length_cons, Nat.add_mul]
    omega
theorem flat_at {s : Nat} (hs : 0 < s) : ∀ (rs : List (List Value)), (∀ r ∈ rs, r.length = s) → ∀ i r j, rs[i]? = some r → j < s → rs.flatten[i * s + j]? = r[j]?
  | [], _, i, r, j, h, _ => by simp at h
  | r0 :: rs, h, i, r, j, hi, hj => by
    have h0 : r0.length = s := h r0 (List.mem_cons_self ..)
    rw [List.flatten_cons]
    cases i with
    | zero =>
      simp at hi
      subst hi
      rw [Nat.zero_mul, Nat.zero_add, List.getElem?_append_left (by omega)]
    | succ i =>
      simp at hi
      rw [List.getElem?_append_right (by rw [h0, Nat.add_mul]; omega), h0, show (i + 1) * s + j - s = i * s + j from by rw [Nat.add_mul]; omega]
      exact flat_at hs rs (fun x hx => h x (List.mem_cons_of_mem _ hx)) i r j hi hj
/-- The cells of a row of elements of s cells each. -/
theorem flat_cells {s : Nat} (hs : 0 < s) {w : World} {b o : Nat} (rs : List (List Value)) (hr : ∀ r ∈ rs, r.length = s)
    (h : ∀ i r, rs[i]? = some r → ∀ j u, r[j]? = some u → w.cell? ⟨b, o + (i * s + j), none⟩ = some u) : ∀ j u, rs.flatten[j]? = some u → w.cell? ⟨b, o + j, none⟩ = some u := by
  intro j u hj
  have hl : j < rs.length * s := by rw [← flat_len rs hr]; exact (List.getElem?_eq_some_iff.1 hj).1
  have hi : j / s < rs.length := Nat.div_lt_of_lt_mul (by rw [Nat.mul_comm]; exact hl)
  have hd : j / s * s + j % s = j := by rw [Nat.mul_comm]; exact Nat.div_add_mod j s
  have h1 := flat_at hs rs hr (j / s) rs[j / s] (j % s) (List.getElem?_eq_getElem hi) (Nat.mod_lt _ hs)
  rw [hd, hj] at h1
  have := h (j / s) rs[j / s] (List.getElem?_eq_getElem hi) (j % s) u h1.symm
  rwa [hd] at this

theorem spot_none {w : World} {a : Addr} {i : Nat} {u : Value} (h : w.cell? (a.add i) = some u) (hi : i = 0) : a.spot = none := by
  subst hi
  unfold Addr.add at h
  simp only [if_true] at h
  cases hs : a.spot with
  | none => rfl
  | some s =>
    exfalso
    unfold World.cell? at h
    split at h <;> simp [hs] at h

theorem add_addX (a : Addr) (m n : Nat) : (a.add m).add n = a.add (m + n) := by
  unfold Addr.add
  by_cases hn : n = 0
  · simp [hn]
  · by_cases hm : m = 0
    · simp [hm, hn]
    · simp [hm, hn, Nat.add_assoc]

section
variable {H : Type} {enc : TypeId × Value → H} {P : Program} {w : World}
/-- Any slice that came in: its elements' cells, of a form F each. -/
theorem open_rowG {t e : TypeId} {s base : Nat} {held : Bool} {fuel : Nat} {v : Value} {y : DataW H × List MemPlace} (F : List Value → Prop) (ht : P.underlying t = some (.slice e)) (hc : P.cellsOf e = s) (hs : 0 < s)
    (hF : ∀ n cs x, DataW.trod enc P w base (fun _ => true) held n e cs = some x → cs.length = s → F cs)
    (h : DataW.trod enc P w base (fun _ => true) held fuel t [v] = some y) :
    ∃ (a : Option Addr) (c : Nat) (rs : List (List Value)), v = .slice a rs.length c ∧ CellsAt w a rs.flatten ∧ rs.length ≤ maxLen ∧ ∀ r ∈ rs, r.length = s ∧ F r := by
  rcases Go.Deep.open_slice ht h with ⟨hcs, _⟩ | ⟨a, len, cap, m, n, D, Pl, hcs, _, hl, hm, hmm, _, hel⟩
  · simp at hcs
    exact ⟨none, 0, [], hcs, .inl rfl, by simp [maxLen], fun x hx => by simp at hx⟩
  · simp at hcs hmm
    rw [hc] at hel
    have each : ∀ i : Nat, ∃ r : List Value, i < len → r.length = s ∧ F r ∧ ∀ j u, r[j]? = some u → w.cell? (a.add (i * s + j)) = some u := by
      intro i
      by_cases hi : i < len
      · obtain ⟨cs', h1, h2⟩ := hel i (by omega)
        obtain ⟨_, h3, h4⟩ := World.cells?_some h1
        refine ⟨cs', fun _ => ⟨h3, hF _ _ _ h2 h3, fun j u hj => ?_⟩⟩
        have hjl : j < s := by rw [← h3]; exact (List.getElem?_eq_some_iff.1 hj).1
        have := h4 j hjl
        rw [add_addX] at this
        rw [this]; exact hj
      · exact ⟨[], fun h => absurd h hi⟩
    obtain ⟨R, hR⟩ := Classical.axiomOfChoice each
    have hlen : ((List.range len).map R).length = len := by simp
    have hget : ∀ i r, ((List.range len).map R)[i]? = some r → i < len ∧ r = R i := by
      intro i r hi
      have h1 : i < len := by have := (List.getElem?_eq_some_iff.1 hi).1; simpa using this
      rw [List.getElem?_map, List.getElem?_range h1] at hi
      exact ⟨h1, by simpa using hi.symm⟩
    have hall : ∀ r ∈ (List.range len).map R, r.length = s ∧ F r := by
      intro r hr
      obtain ⟨i, hi, rfl⟩ := List.mem_map.1 hr
      obtain ⟨h1, h2, _⟩ := hR i (by simpa using hi)
      exact ⟨h1, h2⟩
    refine ⟨some a, cap, (List.range len).map R, by rw [hlen]; exact hcs, ?_, by rw [hlen]; omega, hall⟩
    by_cases h0 : len = 0
    · subst h0; exact .inl rfl
    have h0' : 0 < len := Nat.pos_of_ne_zero h0
    obtain ⟨h1, _, h3⟩ := hR 0 h0'
    have hsp : a.spot = none := by
      have h4 := h3 0 _ (List.getElem?_eq_getElem (by omega))
      rw [Nat.zero_mul] at h4
      exact spot_none h4 rfl
    obtain ⟨b, o, sp⟩ := a
    simp only at hsp
    subst hsp
    refine .inr ⟨b, o, rfl, flat_cells hs _ (fun r hr => (hall r hr).1) fun i r hi j u hj => ?_⟩
    obtain ⟨hil, rfl⟩ := hget i r hi
    have := (hR i hil).2.2 j u hj
    rwa [Addr.add_lit] at this

/-- A slice of bools that came in. -/
theorem open_rowB {t e : TypeId} {base : Nat} {held : Bool} {fuel : Nat} {v : Value} {y : DataW H × List MemPlace} (ht : P.underlying t = some (.slice e)) (he : P.underlying e = some .bool) (hc : P.cellsOf e = 1)
    (h : DataW.trod enc P w base (fun _ => true) held fuel t [v] = some y) :
    ∃ (a : Option Addr) (c : Nat) (xs : List Bool), v = .slice a xs.length c ∧ CellsAt w a (xs.map Value.bool) ∧ xs.length ≤ maxLen := by
  obtain ⟨a, c, rs, h1, h2, h3, h4⟩ := open_rowG (fun r => ∃ b, r = [.bool b]) ht hc (by omega) (fun n cs x hx _ => by
    obtain ⟨b, hb, _⟩ := DataW.trod_bool he hx
    exact ⟨b, hb⟩) h
  have : ∀ rs : List (List Value), (∀ r ∈ rs, r.length = 1 ∧ ∃ b, r = [Value.bool b]) → ∃ xs : List Bool, rs.flatten = xs.map Value.bool ∧ rs.length = xs.length := by
    intro rs
    induction rs with
    | nil => intro _; exact ⟨[], rfl, rfl⟩
    | cons r rs ih =>
      intro h
      obtain ⟨xs, e1, e2⟩ := ih fun x hx => h x (List.mem_cons_of_mem _ hx)
      obtain ⟨_, b, hb⟩ := h r (List.mem_cons_self ..)
      exact ⟨b :: xs, by rw [List.flatten_cons, e1, hb]; rfl, by simp [e2]⟩
  obtain ⟨xs, e1, e2⟩ := this rs h4
  exact ⟨a, c, xs, by rw [← e2]; exact h1, by rw [← e1]; exact h2, by rw [← e2]; exact h3⟩
end

section
variable {w : World}
/-- The cells of a row of bools, in the walk's spelling. -/
theorem CellsAt.bool {a : Option Addr} {xs : List Bool} (h : CellsAt w a (xs.map Value.bool)) (hne : 0 < xs.length) :
    ∃ b o, a = some ⟨b, o, none⟩ ∧ ∀ j, j < xs.length → w.cell? ⟨b, o + j, none⟩ = some (.bool (xs[j]?.getD false)) := by
  rcases h with h | ⟨b, o, ha, h⟩
  · simp at h; subst h; simp at hne
  · refine ⟨b, o, ha, fun j hj => h j _ ?_⟩
    simp [List.getElem?_map, List.getElem?_eq_getElem hj]
theorem cell_atB {b o : Nat} {xs : List Bool} (h : ∀ j, j < xs.length → w.cell? ⟨b, o + j, none⟩ = some (.bool (xs[j]?.getD false))) (j : Nat) (x : Bool) (hx : xs[j]? = some x) :
    w.cell? ⟨b, o + j, none⟩ = some (.bool x) ∧ b < w.heap.size ∧ b ≠ w.heap.size := by
  have hj : j < xs.length := (List.getElem?_eq_some_iff.1 hx).1
  have h1 := h j hj
  rw [hx] at h1
  have h2 := World.block_lt_of_cell? _ _ h1
  simp only at h2
  exact ⟨h1, h2, by omega⟩
end

/-- What the walk is told of a slice of bools that came in. -/
structure BoolsIn (w : World) (a : Option Addr) (xs : List Bool) : Prop where
  cells : CellsAt w a (xs.map Value.bool)
  len : xs.length ≤ maxLen

end Go.Proofs.YthdldmkeoglflaaDoor
