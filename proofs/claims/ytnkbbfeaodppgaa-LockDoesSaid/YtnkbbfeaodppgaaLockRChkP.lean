/- The reference's Check, as plain data. -/
import Derived.Test.YtnkbbfeaodppgaaLockFree
namespace Go.Proofs.Ytnkbbfeaodppgaa
open Go.RowKit

theorem nodup_len : ∀ (n : Nat) (l : List Int), l.Nodup → (∀ x ∈ l, 0 ≤ x ∧ x < n) → l.length ≤ n
  | 0, l, _, h => by
    cases l with
    | nil => simp
    | cons x r => have := h x (by simp); omega
  | n + 1, l, hd, h => by
    by_cases hm : (n : Int) ∈ l
    · have h1 := nodup_len n (l.erase (n : Int)) (hd.erase _) fun x hx => by
        have hx2 := (hd.mem_erase_iff).1 hx
        have := h x hx2.2
        have := hx2.1
        omega
      rw [List.length_erase_of_mem hm] at h1
      omega
    · have := nodup_len n l hd fun x hx => by
        have := h x hx
        have hne : x ≠ (n : Int) := fun e => hm (e ▸ hx)
        omega
      omega
theorem taskB_iff {t : Int} : taskB t = true ↔ 0 ≤ t ∧ t < 12 := by simp [taskB]
theorem tasks_len {l : List Int} (hd : l.Nodup) (h : ∀ x ∈ l, taskB x = true) : l.length ≤ 12 := nodup_len 12 l hd fun x hx => taskB_iff.1 (h x hx)
theorem inc_nodup {l : List Int} (h : l.Pairwise (· < ·)) : l.Nodup := h.imp fun h => by omega
theorem rsOk_tasks {rs : List Int} (h : rsOk rs = true) : ∀ x ∈ rs, taskB x = true := by
  intro x hx
  obtain ⟨i, hi, rfl⟩ := List.getElem_of_mem hx
  unfold rsOk at h
  rw [List.all_eq_true] at h
  have := h i (List.mem_range.2 hi)
  unfold rsBad at this
  rw [List.getElem?_eq_getElem hi] at this
  simp at this
  exact this.1
/-- Everyone that a lock names. -/
def allL (W : Int) (rs : List Int) (q : Waits) : List Int := seenL W rs ++ q.map (·.1)
def allBad (l : List Int) (i : Nat) : Bool := !taskB (l[i]?.getD 0) || (l.take i).contains (l[i]?.getD 0)
theorem all_good {l : List Int} : (∀ i, i < l.length → allBad l i = false) ↔ (∀ x ∈ l, taskB x = true) ∧ l.Nodup := by
  constructor
  · intro h
    refine ⟨fun x hx => ?_, ?_⟩
    · obtain ⟨i, hi, rfl⟩ := List.getElem_of_mem hx
      have := h i hi
      unfold allBad at this
      rw [List.getElem?_eq_getElem hi] at this
      simp at this
      exact this.1
    · unfold List.Nodup
      rw [List.pairwise_iff_getElem]
      intro i j hi hj hij e
      have := h j hj
      unfold allBad at this
      rw [List.getElem?_eq_getElem hj] at this
      simp only [Bool.or_eq_false_iff, Option.getD_some] at this
      have h2 : (l.take j).contains l[j] = true := by
        rw [List.contains_iff_mem, ← e]
        exact List.mem_take_iff_getElem.2 ⟨i, by omega, rfl⟩
      rw [h2] at this
      exact absurd this.2 (by decide)
  · rintro ⟨h1, h2⟩ i hi
    unfold allBad
    rw [List.getElem?_eq_getElem hi]
    simp only [Bool.or_eq_false_iff, Option.getD_some]
    refine ⟨by rw [h1 _ (List.getElem_mem hi)]; rfl, ?_⟩
    cases hc : (l.take i).contains l[i] with
    | false => rfl
    | true =>
      rw [List.contains_iff_mem] at hc
      obtain ⟨j, hj, e⟩ := List.mem_take_iff_getElem.1 hc
      have := List.pairwise_iff_getElem.1 h2 j i (by omega) hi (by omega)
      exact absurd e this
theorem LV.all {W : Int} {rs : List Int} {q : Waits} (h : LV W rs q) : (∀ x ∈ allL W rs q, taskB x = true) ∧ (allL W rs q).Nodup := by
  have hf := (fresh_spec q (seenL W rs)).1 h.hq
  have hs : (∀ x ∈ seenL W rs, taskB x = true) ∧ (seenL W rs).Nodup := by
    unfold seenL
    split
    · exact ⟨rsOk_tasks h.hr, inc_nodup (rsOk_inc h.hr)⟩
    · rcases h.hw with e | ⟨e1, e2⟩
      · exact absurd e ‹_›
      · subst e2; exact ⟨by simpa using e1, by simp⟩
  refine ⟨fun x hx => ?_, ?_⟩
  · rcases List.mem_append.1 hx with hx | hx
    · exact hs.1 x hx
    · obtain ⟨w, hw, rfl⟩ := List.mem_map.1 hx
      exact (hf.1 w hw).1
  · refine List.nodup_append.2 ⟨hs.2, hf.2, fun x hx y hy e => ?_⟩
    obtain ⟨w, hw, rfl⟩ := List.mem_map.1 hy
    exact (hf.1 w hw).2 (e ▸ hx)
theorem LV.len {W : Int} {rs : List Int} {q : Waits} (h : LV W rs q) : rs.length ≤ 12 ∧ q.length ≤ 12 := by
  have := tasks_len h.all.2 h.all.1
  have hl : (allL W rs q).length = (seenL W rs).length + q.length := by simp [allL]
  have hs : rs.length ≤ (seenL W rs).length := by unfold seenL; split <;> simp
  omega
theorem err_of_not {W : Int} {rs : List Int} {q : Waits} (h : ¬ LV W rs q) : lockErr W rs q = 8 := (lockErr_cases W rs q).resolve_right fun e => h (LV.of e)
theorem err_len {W : Int} {rs : List Int} {q : Waits} (h : 12 < rs.length ∨ 12 < q.length) : lockErr W rs q = 8 := err_of_not fun hv => by have := hv.len; omega
theorem err_all {W : Int} {rs : List Int} {q : Waits} {i : Nat} (hi : i < (allL W rs q).length) (h : allBad (allL W rs q) i = true) : lockErr W rs q = 8 := err_of_not fun hv => by
  rw [all_good.2 hv.all i hi] at h; cases h
theorem err_sort {W : Int} {rs : List Int} {q : Waits} {i : Nat} (hi : i + 1 < rs.length) (h : rs[i + 1]?.getD 0 < rs[i]?.getD 0) : lockErr W rs q = 8 := err_of_not fun hv => by
  have := List.pairwise_iff_getElem.1 (rsOk_inc hv.hr) i (i + 1) (by omega) hi (by omega)
  rw [List.getElem?_eq_getElem hi, List.getElem?_eq_getElem (by omega)] at h
  simp only [Option.getD_some] at h
  omega
theorem err_both {W : Int} {rs : List Int} {q : Waits} (h1 : W ≠ -1) (h2 : 0 < rs.length) : lockErr W rs q = 8 := err_of_not fun hv => by
  rcases hv.hw with e | ⟨_, e⟩
  · exact h1 e
  · subst e; simp at h2
theorem err_head {W : Int} {rs : List Int} {q : Waits} (h1 : 0 < q.length) (h2 : canB W rs (md q 0) = true) : lockErr W rs q = 8 := err_of_not fun hv => by
  rcases hv.hc with e | e
  · subst e; simp at h1
  · rw [e] at h2; cases h2
theorem err_none {W : Int} {rs : List Int} {q : Waits} (h1 : ∀ i, i < (allL W rs q).length → allBad (allL W rs q) i = false) (h2 : ∀ i, i + 1 < rs.length → rs[i]?.getD 0 ≤ rs[i + 1]?.getD 0) (h3 : W = -1 ∨ rs = []) (h4 : q = [] ∨ canB W rs (md q 0) = false) : lockErr W rs q = 0 := by
  obtain ⟨g1, g2⟩ := all_good.1 h1
  have g3 := List.nodup_append.1 g2
  have hsub : ∀ x ∈ rs, x ∈ seenL W rs := fun x hx => by unfold seenL; split; exact hx; exact List.mem_append_left _ hx
  have hnd : rs.Nodup := by
    have := g3.1
    unfold seenL at this
    split at this
    · exact this
    · exact (List.nodup_append.1 this).1
  refine LV.err ⟨?_, ?_, ?_, h4⟩
  · refine rsOk_good fun i hi => ?_
    unfold rsBad
    have ht : taskB (rs[i]?.getD 0) = true := by
      rw [List.getElem?_eq_getElem hi]
      exact g1 _ (List.mem_append_left _ (hsub _ (List.getElem_mem hi)))
    rw [ht]
    cases i with
    | zero => rfl
    | succ i =>
      have := h2 i hi
      have hne := List.pairwise_iff_getElem.1 hnd i (i + 1) (by omega) hi (by omega)
      rw [List.getElem?_eq_getElem hi, List.getElem?_eq_getElem (by omega)] at this
      rw [Nat.add_sub_cancel, List.getElem?_eq_getElem hi, List.getElem?_eq_getElem (by omega)]
      simp only [Option.getD_some] at this ⊢
      simp; omega
  · by_cases hW : W = -1
    · exact .inl hW
    · right
      refine ⟨?_, h3.resolve_left hW⟩
      refine g1 W (List.mem_append_left _ ?_)
      unfold seenL; rw [if_neg hW]; simp
  · refine (fresh_spec q (seenL W rs)).2 ⟨fun w hw => ⟨g1 _ (List.mem_append_right _ (List.mem_map_of_mem hw)), fun hm => ?_⟩, g3.2.1⟩
    exact g3.2.2 _ hm _ (List.mem_map_of_mem hw) rfl

end Go.Proofs.Ytnkbbfeaodppgaa
