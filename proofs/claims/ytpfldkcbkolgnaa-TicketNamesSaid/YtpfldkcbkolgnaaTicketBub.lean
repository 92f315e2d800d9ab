/- A slip that moves down into its place; stores into rows of the call's own. -/
import Derived.Test.YtpfldkcbkolgnaaTicketDk
namespace Go.Proofs.Ytpfldkcbkolgnaa
open Go.RowKit
set_option linter.unusedSimpArgs false
set_option linter.unusedVariables false

theorem OwnX.setAtS {w : World} {base e sz g c n : Nat} {xs : List Value} (h : OwnX w base e sz (.slice (some ⟨g, 0, none⟩) n c) n xs) {i : Nat} (hi : i < xs.length) (u : Value) :
    OwnX (w.setCell ⟨g, i, none⟩ u) base e sz (.slice (some ⟨g, 0, none⟩) n c) n (xs.set i u) := by
  refine ⟨by simpa using h.1, ?_⟩
  rcases h.2 with ⟨h1, _⟩ | ⟨g', cap, cur, hv, h3, h4, h5, h6, h7, h8⟩
  · cases h1
  · cases hv
    refine .inr ⟨g, c, cur.setIfInBounds i u, rfl, h3, ?_, h5, h6, by simpa using h7, ?_⟩
    · simp [World.setCell, Array.getElem?_modify, h4]
    · rw [← h8]; simp [List.take_set]
theorem OwnX.atS {w : World} {base e sz c n : Nat} {a : Option Addr} {xs : List Value} (h : OwnX w base e sz (.slice a n c) n xs) (hn : 0 < n) :
    ∃ b, a = some ⟨b, 0, none⟩ ∧ base ≤ b ∧ b < w.heap.size ∧ (∀ j u, xs[j]? = some u → w.cell? ⟨b, j, none⟩ = some u) ∧ ∀ j, w.frozen? ⟨b, j, none⟩ = false := by
  rcases h.2 with ⟨h1, _⟩ | ⟨b, cap, cur, hv, h3, h4, h5, h6, h7, h8⟩
  · cases h1; omega
  · cases hv
    have hlt := (h.lt b rfl).2
    refine ⟨b, rfl, h3, hlt, fun j u hj => ?_, fun j => ?_⟩
    · have := World.ownsRow.cells h (g := b) rfl j u hj
      rwa [Addr.add_lit, Nat.zero_add] at this
    · simp [World.frozen?, h4]

/-- What is appended elsewhere leaves cells as they are. -/
theorem CellsAt.grown {w w' : World} {a : Option Addr} {cs : List Value} {v : Value} (h : CellsAt w a cs) (hg : w.grownBy w' v.ownBlock) (hne : ∀ ad, a = some ad → v.ownBlock ≠ some ad.block) : CellsAt w' a cs := by
  rcases h with h | ⟨b, o, rfl, h⟩
  · exact .inl h
  · refine .inr ⟨b, o, rfl, fun j u hj => ?_⟩
    have h1 := h j u hj
    have h2 := World.block_lt_of_cell? _ _ h1
    rw [← h1]
    exact World.cell?_of_block (hg.block b h2 (fun e => hne _ rfl e.symm))
theorem cel_set : ∀ (L : Slips) (i : Nat) (p q : Int), cel (L.set i (p, q)) = ((cel L).set (i * 2) (.int .i64 p)).set (i * 2 + 1) (.int .u64 q)
  | [], i, p, q => by simp [cel_nil]
  | s :: L, 0, p, q => by simp [cel_cons]
  | s :: L, i + 1, p, q => by
    rw [List.set_cons_succ, cel_cons, cel_cons, cel_set L i p q, show (i + 1) * 2 = i * 2 + 1 + 1 by omega]
    simp
/-- The slip at its k-th place. -/
def bub (hs : Slips) (t x : Int) (k : Nat) : Slips := hs.take k ++ (t, x) :: hs.drop k
theorem bub_len (hs : Slips) (t x : Int) {k : Nat} (hk : k ≤ hs.length) : (bub hs t x k).length = hs.length + 1 := by
  unfold bub
  rw [List.length_append, List.length_cons, List.length_take, List.length_drop]; omega
theorem bub_end (hs : Slips) (t x : Int) : bub hs t x hs.length = hs ++ [(t, x)] := by unfold bub; simp
theorem bub_at {hs : Slips} {t x : Int} {k : Nat} (hk : k ≤ hs.length) : tg (bub hs t x k) k = t ∧ wg (bub hs t x k) k = x := by
  have : (bub hs t x k)[k]? = some (t, x) := by
    unfold bub
    rw [List.getElem?_append_right (by rw [List.length_take]; omega), List.length_take, Nat.min_eq_left hk]
    simp
  simp [tg, wg, this]
theorem bub_below {hs : Slips} {t x : Int} {m : Nat} (hm : m < hs.length) : tg (bub hs t x (m + 1)) m = tg hs m ∧ wg (bub hs t x (m + 1)) m = wg hs m := by
  have : (bub hs t x (m + 1))[m]? = hs[m]? := by
    unfold bub
    rw [List.getElem?_append_left (by rw [List.length_take]; omega), List.getElem?_take, if_pos (by omega)]
  simp [tg, wg, this]
theorem bub_step {hs : Slips} {t x : Int} {m : Nat} (hm : m < hs.length) : ((bub hs t x (m + 1)).set (m + 1) (tg hs m, wg hs m)).set m (t, x) = bub hs t x m := by
  have h1 : hs.take (m + 1) = hs.take m ++ [(tg hs m, wg hs m)] := by rw [List.take_succ_eq_append_getElem hm, hs_at hm]
  have h2 : hs.drop m = (tg hs m, wg hs m) :: hs.drop (m + 1) := by rw [List.drop_eq_getElem_cons hm, hs_at hm]
  have h3 : (hs.take m).length = m := by rw [List.length_take]; omega
  unfold bub
  rw [h1, h2, List.append_assoc]
  rw [List.set_append_right _ _ (by omega), h3, show m + 1 - m = 1 by omega]
  simp only [List.cons_append, List.nil_append, List.set_cons_succ, List.set_cons_zero]
  rw [List.set_append_right _ _ (by omega), h3, Nat.sub_self]
  rfl
theorem bub_cel {hs : Slips} {t x : Int} {m : Nat} (hm : m < hs.length) :
    (((((cel (bub hs t x (m + 1))).set ((m + 1) * 2) (.int .i64 (tg hs m))).set ((m + 1) * 2 + 1) (.int .u64 (wg hs m))).set (m * 2) (.int .i64 t)).set (m * 2 + 1) (.int .u64 x)) = cel (bub hs t x m) := by
  rw [← cel_set, ← cel_set, bub_step hm]
theorem bub_ins (hs : Slips) (t x : Int) : bub hs t x (lb hs t) = insD hs t x := rfl

/-- What goes out leaves a valid desk. -/
theorem DV.pop {g o r : Int} {hs : Slips} (h : DV g o r hs) (h0 : 0 < hs.length) (ht : tg hs 0 = o) : DV g (o + 1) r (hs.drop 1) := by
  match hs, h0 with
  | s :: l, _ =>
    rw [tg_cons0] at ht
    have h1 : ∀ i, i < l.length → o + 1 ≤ tg l i ∧ tg l i < g := fun i hi => by
      have := h.nth (i + 1) (by simpa using hi)
      rw [tg_cons] at this
      have h2 := Inc.head h.inc i hi
      omega
    have h2 : Inc l := Inc.tail h.inc
    have h3 := h.nth 0 (by simp)
    rw [tg_cons0] at h3
    have h4 := held_besides (fun i hi => (h.nth i hi).1) h.inc
    unfold heldN at h4
    rw [if_pos ⟨by simp, by rw [tg_cons0]; exact ht⟩] at h4
    have h5 := held_besides (o := o + 1) (fun i hi => (h1 i hi).1) h2
    have h6 := h.room
    simp only [List.drop_succ_cons, List.drop_zero]
    refine ⟨h.r1, h.r2, by have := h.o1; omega, by omega, h.g1, ?_, h1, h2⟩
    unfold heldN at h5
    simp at h4
    split at h5 <;> omega
theorem run_drop {o : Int} : ∀ (hs : Slips) (k : Nat), k ≤ run o hs → run (o + k) (hs.drop k) = run o hs - k
  | hs, 0, _ => by simp
  | [], k + 1, h => by simp [run] at h
  | s :: l, k + 1, h => by
    have hr : run o (s :: l) = if s.1 = o then run (o + 1) l + 1 else 0 := rfl
    rw [hr] at h ⊢
    split at h
    · rename_i he
      rw [if_pos he, List.drop_succ_cons, show o + ((k + 1 : Nat) : Int) = o + 1 + k by omega, Nat.add_sub_add_right]
      exact run_drop (o := o + 1) l k (by omega)
    · omega
theorem DV.popN {g o r : Int} {hs : Slips} (h : DV g o r hs) : ∀ k, k ≤ run o hs → DV g (o + k) r (hs.drop k)
  | 0, _ => by simpa using h
  | k + 1, hk => by
    have ih := DV.popN h k (by omega)
    have h1 := run_drop (o := o) hs k (by omega)
    have h2 := run_le (hs.drop k) (o + k)
    have h3 := run_at (hs.drop k) (o + k) 0 (by omega)
    have := DV.pop ih (by omega) (by simpa using h3)
    rw [List.drop_drop] at this
    rw [show o + ((k + 1 : Nat) : Int) = o + k + 1 by omega]
    exact this
theorem tg_drop (hs : Slips) (k : Nat) : tg (hs.drop k) 0 = tg hs k ∧ wg (hs.drop k) 0 = wg hs k := by simp [tg, wg]
/-- A pop, the k-th. -/
theorem pop_at {g o r : Int} {hs : Slips} (h : DV g o r hs) {k : Nat} (hk : k < run o hs) : dPop ⟨g, o + k, r, hs.drop k⟩ = (⟨g, o + (k + 1 : Nat), r, hs.drop (k + 1)⟩, (o + k, wg hs k), 0) := by
  have h1 := (h.popN k (by omega)).err
  have h2 := run_le hs o
  have h3 := run_at hs o k hk
  unfold dPop Dk.err
  simp only
  rw [if_pos h1, if_pos ⟨by rw [List.length_drop]; omega, by rw [(tg_drop hs k).1]; exact h3⟩, (tg_drop hs k).1, (tg_drop hs k).2, h3, List.drop_drop]
  simp; omega
theorem pop_stop {g o r : Int} {hs : Slips} (h : DV g o r hs) : dPop ⟨g, o + (run o hs : Nat), r, hs.drop (run o hs)⟩ = (Dk.zero, (0, 0), 38) ∧ ¬ (0 < (hs.drop (run o hs)).length ∧ tg (hs.drop (run o hs)) 0 = o + (run o hs : Nat)) := by
  have h1 := (h.popN (run o hs) (Nat.le_refl _)).err
  have h4 : ¬ (0 < (hs.drop (run o hs)).length ∧ tg (hs.drop (run o hs)) 0 = o + (run o hs : Nat)) := by
    rintro ⟨h2, h3⟩
    rw [(tg_drop hs _).1] at h3
    rw [List.length_drop] at h2
    exact run_stop hs o (by omega) h3
  refine ⟨?_, h4⟩
  unfold dPop Dk.err
  simp only
  rw [if_pos h1, if_neg h4]

end Go.Proofs.Ytpfldkcbkolgnaa
