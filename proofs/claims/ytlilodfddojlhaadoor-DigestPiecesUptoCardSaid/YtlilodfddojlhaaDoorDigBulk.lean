/- Pieces as they come in, and their bulk. -/
import Derived.Test.YtlilodfddojlhaaDoorDigCard
namespace Go.Proofs.YtlilodfddojlhaaDoor
open Go.RowKit Go.Joins Go.ChangeShapes Go.WideShapes Go.ChangeAt

theorem bulk_one {H : Type} (d : DataW H) : 1 ≤ Rows.uptoBulk d := by
  cases d with
  | lit l => cases l <;> simp [Rows.uptoBulk]
  | nil => simp [Rows.uptoBulk]
  | ptr d => simp [Rows.uptoBulk]
  | slice elems spare => simp [Rows.uptoBulk]
  | agg parts => simp [Rows.uptoBulk]
  | iface t d => simp [Rows.uptoBulk]
  | map entries => simp [Rows.uptoBulk]
  | held h => simp [Rows.uptoBulk]
theorem bulk_length {H : Type} (l : List (DataW H)) : l.length ≤ Rows.uptoBulkAll l := by
  induction l with
  | nil => simp [Rows.uptoBulkAll]
  | cons x r ih => have := bulk_one x; simp only [Rows.uptoBulkAll, List.length_cons]; omega
theorem bulk_part {H : Type} {d : DataW H} {l : List (DataW H)} (h : d ∈ l) : Rows.uptoBulk d ≤ Rows.uptoBulkAll l := by
  induction l with
  | nil => cases h
  | cons x r ih =>
    simp only [Rows.uptoBulkAll]
    cases List.mem_cons.1 h with
    | inl e => subst e; omega
    | inr e => have := ih e; omega
theorem bulk_sum {H : Type} {D : Nat → DataW H} {B : Nat → List Int} : ∀ L : List Nat, (∀ i ∈ L, (B i).length ≤ Rows.uptoBulk (D i)) → (L.map B).flatten.length ≤ Rows.uptoBulkAll (L.map D)
  | [], _ => by simp [Rows.uptoBulkAll]
  | i :: L, h => by
    have h1 := h i (List.mem_cons_self ..)
    have h2 := bulk_sum L fun j hj => h j (List.mem_cons_of_mem _ hj)
    simp only [List.map_cons, List.flatten_cons, List.length_append, Rows.uptoBulkAll]
    omega
theorem PiecesAt.of {w : World} {V : Nat → Value} {B : Nat → List Int} : ∀ L : List Nat, (∀ i ∈ L, PieceAt w (V i) (B i)) → PiecesAt w (L.map V) (L.map B)
  | [], _ => trivial
  | i :: L, h => ⟨h i (List.mem_cons_self ..), PiecesAt.of L fun j hj => h j (List.mem_cons_of_mem _ hj)⟩

section
variable {H : Type} {enc : TypeId × Value → H} {w : World} {base : Nat} {held : Bool}
theorem piece_bulk {n : Nat} {v : Value} {y : DataW H × List MemPlace} (h : DataW.trod enc Tryd.prog w base (fun _ => true) held n 24 [v] = some y) : ∃ bs, PieceAt w v bs ∧ bs.length ≤ Rows.uptoBulk y.1 := by
  obtain ⟨a, c, bs, e, h2, h3, w1⟩ := open_rowX Tryd.underlying24 Tryd.underlying5 cells_u8 h
  refine ⟨bs, ⟨a, c, e, h2, u8_bytes w1, h3⟩, ?_⟩
  rcases Go.Deep.open_slice1 Tryd.underlying24 cells_u8 h with ⟨hcs, hx⟩ | ⟨a', len, cap, m, n', V, D, Pl, hcs, _, hl, _, _, hx, _⟩
  · simp at hcs
    rw [hcs] at e
    cases bs with
    | nil => simp
    | cons b bs => simp at e
  · simp at hcs
    rw [hcs] at e
    have hlen : bs.length = len := by injection e with _ h2 _; exact h2.symm
    rw [hx, hlen]
    have := bulk_length ((List.range len).map D)
    simp only [Rows.uptoBulk, List.length_map, List.length_range] at this ⊢
    omega
theorem open_piecesU {r : Reach} {b0 : Nat} {v : Value} {d : DataW H} {p : List MemPlace}
    (hv : Value.okWide Tryd.prog w r b0 42 v) (h : DataW.Trod enc Tryd.prog w base (fun _ => true) held 42 v d p) :
    ∃ (l : List (List Int)) (vs : List Value) (a : Option Addr) (c : Nat), v = .slice a l.length c ∧ PiecesIn w a vs l ∧ l.flatten.length ≤ Rows.uptoBulk d := by
  obtain ⟨a0, l0, c0, rfl⟩ := okWide_slice Tryd.underlying42 hv
  obtain ⟨fuel, hf⟩ := h
  rcases Go.Deep.open_slice1 Tryd.underlying42 cells_by hf with ⟨hcs, _⟩ | ⟨a, len, cap, m, n, V, D, Pl, hcs, _, hl, hm, hmm, hx, hel⟩
  · simp [Value.cells] at hcs
    obtain ⟨rfl, rfl, rfl⟩ := hcs
    exact ⟨[], [], none, 0, rfl, ⟨.inl rfl, trivial, rfl, by simp [maxLen]⟩, by simp⟩
  · simp [Value.cells] at hcs
    obtain ⟨rfl, rfl, rfl⟩ := hcs
    simp at hmm
    have each : ∀ i : Nat, ∃ bs : List Int, i < l0 → PieceAt w (V i) bs ∧ bs.length ≤ Rows.uptoBulk (D i) := fun i => by
      by_cases hi : i < l0
      · obtain ⟨bs, h1, h2⟩ := piece_bulk (hel i (by omega)).2
        exact ⟨bs, fun _ => ⟨h1, h2⟩⟩
      · exact ⟨[], fun h => absurd h hi⟩
    obtain ⟨B, hB⟩ := Classical.axiomOfChoice each
    have hsp : 0 < l0 → a.spot = none := fun h0 => spot_none (hel 0 (by omega)).1 rfl
    refine ⟨(List.range l0).map B, (List.range l0).map V, some a, c0, by simp, ⟨?_, PiecesAt.of _ fun i hi => (hB i (by simpa using hi)).1, by simp, by simp; omega⟩, ?_⟩
    · by_cases h0 : l0 = 0
      · subst h0; exact .inl rfl
      · obtain ⟨b, o, sp⟩ := a
        obtain rfl : sp = none := hsp (by omega)
        refine .inr ⟨b, o, rfl, fun j u hj => ?_⟩
        have hjl : j < l0 := by have := (List.getElem?_eq_some_iff.1 hj).1; simpa using this
        rw [List.getElem?_map, List.getElem?_range hjl] at hj
        have h1 := (hel j (by omega)).1
        rw [Addr.add_lit] at h1
        rw [h1]; simpa using hj
    · have e : d = .slice ((List.range l0).map D) ((List.range (m - l0)).map fun j => D (l0 + j)) := congrArg Prod.fst hx
      rw [e]
      have := bulk_sum (D := D) (B := B) (List.range l0) fun i hi => (hB i (by simpa using hi)).2
      simp only [Rows.uptoBulk]
      omega
end

end Go.Proofs.YtlilodfddojlhaaDoor
