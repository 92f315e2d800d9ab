/- Tickets in order, as plain data. -/
import Derived.Test.YtpfldkcbkolgnaaTicketDrainsW
namespace Go.Proofs.Ytpfldkcbkolgnaa
open Go.RowKit
set_option linter.unusedSimpArgs false

/-- Which tickets have been put. -/
def pt (o : Int) (hs : Slips) (j : Int) : Bool := decide (j < o) || hasT hs j
/-- Each slip bears seven times its ticket. -/
def Sev (hs : Slips) : Prop := ∀ s ∈ hs, s.2 = s.1 * 7
theorem Sev.at {hs : Slips} (h : Sev hs) {i : Nat} (hi : i < hs.length) : wg hs i = tg hs i * 7 := by
  have := h hs[i] (List.getElem_mem hi)
  rw [hs_at hi] at this
  exact this
theorem Sev.ins {hs : Slips} (h : Sev hs) (t : Int) : Sev (insD hs t (t * 7)) := by
  intro s hs'
  unfold insD at hs'
  rcases List.mem_append.1 hs' with h1 | h1
  · exact h s (List.mem_of_mem_take h1)
  · rcases List.mem_cons.1 h1 with rfl | h1
    · rfl
    · exact h s (List.mem_of_mem_drop h1)
theorem Sev.drop {hs : Slips} (h : Sev hs) (k : Nat) : Sev (hs.drop k) := fun s hs' => h s (List.mem_of_mem_drop hs')
theorem hasT_ins (hs : Slips) (t x j : Int) : hasT (insD hs t x) j = (hasT hs j || t == j) := by
  unfold insD hasT
  rw [List.any_append, List.any_cons]
  conv => rhs; rw [← List.take_append_drop (lb hs t) hs, List.any_append]
  simp only [List.take_append_drop]
  cases (hs.take (lb hs t)).any (fun s => s.1 == j) <;> cases (hs.drop (lb hs t)).any (fun s => s.1 == j) <;> cases (t == j) <;> rfl
theorem pt_ins (o : Int) (hs : Slips) (t x j : Int) : pt o (insD hs t x) j = (pt o hs j || t == j) := by
  unfold pt
  rw [hasT_ins, Bool.or_assoc]
theorem tg_ins {hs : Slips} {t x : Int} {i : Nat} (_ : i ≤ hs.length) : tg (insD hs t x) i = if i < lb hs t then tg hs i else if i = lb hs t then t else tg hs (i - 1) := by
  have hl := lb_le hs t
  unfold tg insD
  by_cases h1 : i < lb hs t
  · rw [if_pos h1, List.getElem?_append_left (by rw [List.length_take]; omega), List.getElem?_take, if_pos h1]
  · rw [if_neg h1, List.getElem?_append_right (by rw [List.length_take]; omega), List.length_take, Nat.min_eq_left hl]
    by_cases h2 : i = lb hs t
    · rw [if_pos h2, h2, Nat.sub_self]; simp
    · rw [if_neg h2]
      obtain ⟨m, hm⟩ : ∃ m, i - lb hs t = m + 1 := ⟨i - lb hs t - 1, by omega⟩
      rw [hm, List.getElem?_cons_succ, List.getElem?_drop, show lb hs t + m = i - 1 by omega]
theorem besides_ins (o : Int) (hs : Slips) (t x : Int) : besides o (insD hs t x) = besides o hs + if t = o then 0 else 1 := by
  unfold besides insD
  rw [List.filter_append, List.length_append, List.filter_cons]
  conv => rhs; rw [← List.take_append_drop (lb hs t) hs, List.filter_append, List.length_append]
  simp only [List.take_append_drop]
  by_cases h : t = o
  · simp [h]
  · simp [h]; omega
theorem DV.put {g o r t x : Int} {hs : Slips} (V : DV g o r hs) (h1 : o ≤ t) (h2 : t < g) (h3 : hasT hs t = false) (h4 : t = o ∨ (besides o hs : Int) < r) : DV g o r (insD hs t x) := by
  have hl := lb_le hs t
  have hne : ∀ i, i < hs.length → tg hs i ≠ t := fun i hi e => by
    have : hasT hs t = true := by
      unfold hasT
      exact List.any_eq_true.2 ⟨hs[i], List.getElem_mem hi, by rw [hs_at hi]; simp [e]⟩
    rw [h3] at this; cases this
  refine ⟨V.r1, V.r2, V.o1, V.o2, V.g1, ?_, fun i hi => ?_, fun i h0 hi => ?_⟩
  · rw [besides_ins]
    have := V.room
    split <;> omega
  · rw [insD_len] at hi
    rw [tg_ins (by omega)]
    split
    · exact V.nth i (by omega)
    · split
      · omega
      · exact V.nth (i - 1) (by omega)
  · rw [insD_len] at hi
    rw [tg_ins (by omega), tg_ins (by omega)]
    have hb := lb_iff V.inc t
    by_cases c1 : i < lb hs t
    · rw [if_pos (by omega), if_pos c1]
      exact V.inc i h0 (by omega)
    · by_cases c2 : i = lb hs t
      · rw [if_pos (by omega), if_neg c1, if_pos c2]
        exact (hb (i - 1) (by omega)).2 (by omega)
      · rw [if_neg (by omega : ¬ i < lb hs t), if_neg c2]
        by_cases c3 : i - 1 = lb hs t
        · rw [if_neg (by omega), if_pos c3]
          have h5 := hb (i - 1) (by omega)
          have h6 := hne (i - 1) (by omega)
          omega
        · rw [if_neg (by omega), if_neg c3]
          exact V.inc (i - 1) (by omega) (by omega)
theorem hasT_idx {hs : Slips} {t : Int} {i : Nat} (hi : i < hs.length) (h : tg hs i = t) : hasT hs t = true := by
  unfold hasT
  exact List.any_eq_true.2 ⟨hs[i], List.getElem_mem hi, by rw [hs_at hi]; simp [h]⟩
theorem hasT_range {g o r t : Int} {hs : Slips} (V : DV g o r hs) (h : hasT hs t = true) : o ≤ t ∧ t < g := by
  unfold hasT at h
  obtain ⟨s, h1, h2⟩ := List.any_eq_true.1 h
  obtain ⟨i, hi, rfl⟩ := List.getElem_of_mem h1
  rw [hs_at hi] at h2
  have := V.nth i hi
  have h3 : tg hs i = t := by simpa using h2
  omega
theorem pt_drain {g o r : Int} {hs : Slips} (V : DV g o r hs) (j : Int) : pt (o + (run o hs : Nat)) (hs.drop (run o hs)) j = pt o hs j := by
  have V2 := V.popN (run o hs) (Nat.le_refl _)
  have hl := run_le hs o
  have hsplit : hasT hs j = (hasT (hs.take (run o hs)) j || hasT (hs.drop (run o hs)) j) := by
    unfold hasT
    rw [← List.any_append, List.take_append_drop]
  have htk : hasT (hs.take (run o hs)) j = true ↔ o ≤ j ∧ j < o + (run o hs : Nat) := by
    constructor
    · intro h
      unfold hasT at h
      obtain ⟨s, h1, h2⟩ := List.any_eq_true.1 h
      obtain ⟨i, hi, rfl⟩ := List.getElem_of_mem h1
      rw [List.length_take] at hi
      rw [List.getElem_take, hs_at (by omega)] at h2
      have h3 := run_at hs o i (by omega)
      have h4 : tg hs i = j := by simpa using h2
      omega
    · rintro ⟨h1, h2⟩
      obtain ⟨i, hi⟩ : ∃ i : Nat, j = o + i := ⟨(j - o).toNat, by omega⟩
      have h3 := run_at hs o i (by omega)
      refine hasT_idx (i := i) (by rw [List.length_take]; omega) ?_
      unfold tg at h3 ⊢
      rw [List.getElem?_take, if_pos (by omega), h3, hi]
  unfold pt
  rw [hsplit]
  by_cases c1 : j < o
  · simp [c1]; left; omega
  · by_cases c2 : j < o + (run o hs : Nat)
    · have := htk.2 ⟨by omega, c2⟩
      rw [this]; simp [c2]
    · have : hasT (hs.take (run o hs)) j = false := by
        cases h : hasT (hs.take (run o hs)) j
        · rfl
        · exact absurd (htk.1 h).2 c2
      rw [this]; simp [c1, c2]
theorem pt_next {g o r : Int} {hs : Slips} (V : DV g o r hs) : pt (o + (run o hs : Nat)) (hs.drop (run o hs)) (o + (run o hs : Nat)) = false := by
  unfold pt
  have V2 := V.popN (run o hs) (Nat.le_refl _)
  have h2 := (pop_stop V).2
  have : hasT (hs.drop (run o hs)) (o + (run o hs : Nat)) = false := by
    cases h : hasT (hs.drop (run o hs)) (o + (run o hs : Nat))
    · rfl
    · exfalso
      have h3 := (hasT_iff V2.inc _).1 h
      have h4 : lb (hs.drop (run o hs)) (o + (run o hs : Nat)) = 0 := by
        rcases Nat.eq_zero_or_pos (lb (hs.drop (run o hs)) (o + (run o hs : Nat))) with h5 | h5
        · exact h5
        · have h6 := (lb_iff V2.inc (o + (run o hs : Nat)) 0 (by omega)).2 h5
          have := V2.nth 0 (by omega)
          omega
      rw [h4] at h3
      exact h2 h3
  rw [this]; simp

end Go.Proofs.Ytpfldkcbkolgnaa
