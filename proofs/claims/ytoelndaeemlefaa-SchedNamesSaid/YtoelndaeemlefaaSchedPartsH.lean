/- The law SchedParts. -/
import Derived.Test.YtoelndaeemlefaaSchedFits
namespace Go.Proofs.Ytoelndaeemlefaa
set_option linter.unusedSimpArgs false
set_option linter.unusedVariables false
set_option linter.unnecessarySimpa false
open Go.RowKit

theorem did_lt {a ps l : List Int} : ∀ k x, x ∈ (runAt a ps l k).2 → 0 ≤ x ∧ x < k
  | 0, x, h => by simp [runAt] at h
  | k + 1, x, h => by
    rw [runAt_succ] at h
    split at h
    · simp only [List.mem_append, List.mem_singleton] at h
      rcases h with h | h
      · have := did_lt k x h; omega
      · omega
    · have := did_lt k x h; omega
theorem g_mem {xs : List Int} {j : Nat} (h : j < xs.length) : g xs j ∈ xs := by simp [g, h]
theorem g_append_left {xs ys : List Int} {j : Nat} (h : j < xs.length) : g (xs ++ ys) j = g xs j := by unfold g; rw [List.getElem?_append_left h]
theorem g_append_right {xs ys : List Int} {j : Nat} (h : xs.length ≤ j) : g (xs ++ ys) j = g ys (j - xs.length) := by unfold g; rw [List.getElem?_append_right h]
theorem g_map_add {xs : List Int} {k : Int} {j : Nat} (h : j < xs.length) : g (xs.map (· + k)) j = g xs j + k := by simp [g, h]
theorem take_cells {w : World} {a : Option Addr} {ps : List Int} (k : Nat) (h : CellsAt w a (ps.map (Value.int .i64))) : CellsAt w a ((ps.take k).map (Value.int .i64)) := by
  rcases h with h | ⟨b, o, e, h⟩
  · left; simp at h; simp [h]
  · refine .inr ⟨b, o, e, fun j u hj => h j u ?_⟩
    rw [List.getElem?_map] at hj ⊢
    by_cases hk : j < k
    · rwa [List.getElem?_take_of_lt hk] at hj
    · rw [List.getElem?_take_eq_none (by omega)] at hj; simp at hj
theorem drop_cells {w : World} {b o : Nat} {ps : List Int} (k : Nat) (h : CellsAt w (some ⟨b, o, none⟩) (ps.map (Value.int .i64))) : CellsAt w (some ⟨b, o + k, none⟩) ((ps.drop k).map (Value.int .i64)) := by
  rcases h with h | ⟨b', o', e, h⟩
  · left; simp at h; simp [h]
  · cases e
    refine .inr ⟨b, o + k, rfl, fun j u hj => ?_⟩
    rw [Nat.add_assoc]
    refine h (k + j) u ?_
    rwa [List.getElem?_map, List.getElem?_drop, ← List.getElem?_map] at hj

/-- What is known of a run in two parts. -/
structure Parts (l a ps : List Int) (k : Nat) (L L1 D D1 D2 : List Int) : Prop where
  all : tkRun l a ps = ((L, a), D, 0)
  fst : tkRun l a (ps.take k) = ((L1, a), D1, 0)
  snd : tkRun L1 a (ps.drop k) = ((L, a), D2, 0)
  did : D = D1 ++ D2.map (· + (k : Int))
  len1 : L1.length = l.length
  len : L.length = l.length
  tv : TV L a
  tv1 : TV L1 a
  sum : sumTo l l.length = sumTo L L.length + D.length
  lt : ∀ x ∈ D, 0 ≤ x ∧ x < 301
  dle : D.length ≤ 300
theorem parts_of {l a ps : List Int} {k : Nat} (h : pkErr l a ps = 0) (hk : k ≤ ps.length) :
    Parts l a ps k (runAt a ps l ps.length).1 (runAt a ps l k).1 (runAt a ps l ps.length).2 (runAt a ps l k).2 (runAt a (ps.drop k) (runAt a ps l k).1 (ps.length - k)).2 := by
  obtain ⟨h1, h2, h3⟩ := pkErr_ok h
  obtain ⟨q1, q2, q3, _⟩ := tErr_ok h1
  have htv := TV.of h1
  have tv1 := runAt_TV htv h3 hk
  have tv := runAt_TV htv h3 (Nat.le_refl _)
  have len1 := runAt_len a ps l k
  have len := runAt_len a ps l ps.length
  have e1 : pkErr l a (ps.take k) = 0 := pkErr_zero h1 (by simp; omega) fun j hj => by
    have hj' : j < k := by simp at hj; omega
    rw [g_take hj']; exact h3 j (by omega)
  have e2 : pkErr (runAt a ps l k).1 a (ps.drop k) = 0 := pkErr_zero (tErr_of tv1 (by omega) (by omega)) (by simp; omega) fun j hj => by
    rw [g_drop, len1]; simp at hj; exact h3 (k + j) (by omega)
  obtain ⟨d1, d2⟩ := runAt_drop a ps l k (ps.length - k)
  rw [show k + (ps.length - k) = ps.length from by omega] at d1 d2
  have hs := run_sum (a := a) h3 ps.length (Nat.le_refl _)
  refine ⟨by simp [tkRun, h], ?_, ?_, d2, len1, len, tv, tv1, by rw [len]; omega, fun x hx => (by have := did_lt _ x hx; omega), by have := runAt_did a ps l ps.length; omega⟩
  · rw [tkRun, if_pos e1, show (ps.take k).length = k from by simp; omega, runAt_take _ _ _ _ k (Nat.le_refl _)]
  · rw [tkRun, if_pos e2, show (ps.drop k).length = ps.length - k from by simp, ← d1]

theorem cells_none {w : World} {a : Option Addr} {ps : List Int} (h : ps.length = 0) : CellsAt w a (ps.map (Value.int .i64)) := by
  left; simp; exact List.eq_nil_of_length_eq_zero h
theorem same_n (n m : Nat) (l a : List Int) (la aa la2 aa2 : Option Addr) (lc ac lc2 ac2 : Nat) (w : World) (hn : n = l.length) (hm : m = a.length) (hl : CellsAt w la (l.map (Value.int .i64))) (ha : CellsAt w aa (a.map (Value.int .i64))) (hl2 : CellsAt w la2 (l.map (Value.int .i64))) (ha2 : CellsAt w aa2 (a.map (Value.int .i64))) (hml : l.length ≤ maxLen) (hma : a.length ≤ maxLen) :
    Calls Try.prog 17 #[.agg #[.slice la n lc, .slice aa m ac], .agg #[.slice la2 n lc2, .slice aa2 m ac2]] w fun e w' =>
      e = .returned (.bool true) ∧ Below w.heap.size w w' := by
  subst hn hm
  exact same_self l a la aa la2 aa2 lc ac lc2 ac2 w hl ha hl2 ha2 hml hma

end Go.Proofs.Ytoelndaeemlefaa
