/- All tickets, as plain data. -/
import Derived.Test.YtpfldkcbkolgnaaTicketInts
namespace Go.Proofs.Ytpfldkcbkolgnaa
open Go.RowKit
set_option linter.unusedSimpArgs false

/-- What is left to put, and what is held, after i puts. -/
structure Lf (n : Nat) (i : Nat) (L : List Int) (hs : Slips) : Prop where
  v : DV n 0 16 hs
  len : L.length + i = n
  hlen : hs.length = i
  nd : L.Nodup
  rng : ∀ x ∈ L, 0 ≤ x ∧ x < n ∧ hasT hs x = false
  snd : ∀ s ∈ hs, s.2 = s.1
theorem besides_len (o : Int) (hs : Slips) : besides o hs ≤ hs.length := by unfold besides; exact List.length_filter_le _ _
theorem Lf.start {n : Nat} (h : n ≤ 16) : Lf n 0 ((List.range n).map Int.ofNat) [] := by
  refine ⟨⟨by omega, by omega, by omega, by omega, by omega, by simp [besides], fun i hi => by simp at hi, fun i _ hi => by simp at hi⟩, by simp, rfl, ?_, fun x hx => ?_, fun s hs => by simp at hs⟩
  · rw [List.nodup_iff_pairwise_ne, List.pairwise_map]
    exact (List.nodup_range (n := n)).imp (fun h e => h (Int.ofNat.inj e))
  · obtain ⟨k, hk, rfl⟩ := List.mem_map.1 hx
    have := List.mem_range.1 hk
    exact ⟨by simp, by simp; omega, rfl⟩
theorem Lf.put {n i : Nat} {L : List Int} {hs : Slips} (h : Lf n i L hs) (hn : n ≤ 16) {at_ : Nat} (ha : at_ < L.length) :
    dPut ⟨n, 0, 16, hs⟩ L[at_] L[at_] = (⟨n, 0, 16, insD hs L[at_] L[at_]⟩, 0) ∧ Lf n (i + 1) (L.take at_ ++ L.drop (at_ + 1)) (insD hs L[at_] L[at_]) := by
  have hx := h.rng L[at_] (List.getElem_mem ha)
  have hl := h.len
  have hhl := h.hlen
  have hb := besides_len 0 hs
  have hV := h.v.put (x := L[at_]) hx.1 hx.2.1 hx.2.2 (.inr (by omega))
  refine ⟨?_, ⟨hV, ?_, ?_, ?_, fun x hxm => ?_, fun s hs' => ?_⟩⟩
  · unfold dPut Dk.err
    simp only
    rw [if_pos h.v.err, if_neg (by omega), if_neg (by rw [hx.2.2]; simp), if_neg (by omega)]
  · rw [List.length_append, List.length_take, List.length_drop]; omega
  · rw [insD_len]; omega
  · have := h.nd
    rw [← List.take_append_drop at_ L, List.drop_eq_getElem_cons ha] at this
    rw [List.nodup_append] at this ⊢
    obtain ⟨h1, h2, h3⟩ := this
    exact ⟨h1, (List.nodup_cons.1 h2).2, fun a ha b hb => h3 a ha b (List.mem_cons_of_mem _ hb)⟩
  · have hne : x ≠ L[at_] := by
      have := h.nd
      rw [← List.take_append_drop at_ L, List.drop_eq_getElem_cons ha, List.nodup_append] at this
      obtain ⟨_, h2, h3⟩ := this
      rcases List.mem_append.1 hxm with h4 | h4
      · exact h3 x h4 _ (List.mem_cons_self ..)
      · intro e; exact (List.nodup_cons.1 h2).1 (e ▸ h4)
    have hmem : x ∈ L := by
      rcases List.mem_append.1 hxm with h4 | h4
      · exact List.mem_of_mem_take h4
      · exact List.mem_of_mem_drop h4
    have h5 := h.rng x hmem
    refine ⟨h5.1, h5.2.1, ?_⟩
    rw [hasT_ins, h5.2.2]
    simp; exact fun e => hne e.symm
  · unfold insD at hs'
    rcases List.mem_append.1 hs' with h1 | h1
    · exact h.snd s (List.mem_of_mem_take h1)
    · rcases List.mem_cons.1 h1 with rfl | h1
      · rfl
      · exact h.snd s (List.mem_of_mem_drop h1)
/-- All have been put: the tickets are 0, 1, .. -/
theorem Lf.all {n : Nat} {L : List Int} {hs : Slips} (h : Lf n n L hs) : run 0 hs = n ∧ ∀ j, j < n → tg hs j = j ∧ wg hs j = j := by
  have hl := h.hlen
  have lo : ∀ j, j < hs.length → (j : Int) ≤ tg hs j := by
    intro j
    induction j with
    | zero => intro hj; exact (h.v.nth 0 hj).1
    | succ j ih =>
      intro hj
      have h1 := ih (by omega)
      have h2 := h.v.inc (j + 1) (by omega) hj
      simp at h2; omega
  have hi : ∀ k j, j + k + 1 = hs.length → tg hs j ≤ j := by
    intro k
    induction k with
    | zero => intro j hj; have := (h.v.nth j (by omega)).2; omega
    | succ k ih =>
      intro j hj
      have h1 := ih (j + 1) (by omega)
      have h2 := h.v.inc (j + 1) (by omega) (by omega)
      simp at h2; omega
  have eq : ∀ j, j < n → tg hs j = j := fun j hj => by
    have h1 := lo j (by omega)
    have h2 := hi (hs.length - j - 1) j (by omega)
    omega
  refine ⟨?_, fun j hj => ⟨eq j hj, ?_⟩⟩
  · rw [← hl]
    exact run_char (Nat.le_refl _) (fun i hi => by rw [eq i (by omega)]; omega) (fun h => by omega)
  · have := h.snd hs[j] (List.getElem_mem (by omega))
    rw [hs_at (by omega)] at this
    simpa [eq j hj] using this

end Go.Proofs.Ytpfldkcbkolgnaa
