/- Valid locks. -/
import Derived.Test.YtnkbbfeaodppgaaLockDel
namespace Go.Proofs.Ytnkbbfeaodppgaa
open Go.RowKit

/-- What a valid lock meets. -/
structure LV (W : Int) (rs : List Int) (q : Waits) : Prop where
  hr : rsOk rs = true
  hw : W = -1 ∨ (taskB W = true ∧ rs = [])
  hq : freshB (seenL W rs) q = true
  hc : q = [] ∨ canB W rs (md q 0) = false
theorem LV.of {W : Int} {rs : List Int} {q : Waits} (h : lockErr W rs q = 0) : LV W rs q := by
  unfold lockErr at h
  split at h
  · cases h
  · split at h
    · cases h
    · split at h
      · cases h
      · split at h
        · cases h
        · rename_i h1 h2 h3 h4
          refine ⟨by simpa using h1, ?_, by simpa using h3, ?_⟩
          · by_cases hW : W = -1
            · exact .inl hW
            · right
              cases ht : taskB W with
              | false => exact absurd ⟨hW, .inl ht⟩ h2
              | true =>
                refine ⟨rfl, ?_⟩
                cases rs with
                | nil => rfl
                | cons x r => exact absurd ⟨hW, .inr (by simp)⟩ h2
          · cases q with
            | nil => exact .inl rfl
            | cons x r =>
              right
              cases hc : canB W rs (md (x :: r) 0) with
              | false => rfl
              | true => exact absurd ⟨by simp, hc⟩ h4
theorem LV.err {W : Int} {rs : List Int} {q : Waits} (h : LV W rs q) : lockErr W rs q = 0 := by
  rw [err_end h.hr ?_ h.hq, if_neg]
  · rintro ⟨h1, h2⟩
    rcases h.hc with h3 | h3
    · subst h3; simp at h1
    · rw [h3] at h2; cases h2
  · rintro ⟨h1, h2⟩
    rcases h.hw with h3 | ⟨h3, h4⟩
    · exact h1 h3
    · rcases h2 with h2 | h2
      · rw [h3] at h2; cases h2
      · subst h4; simp at h2
/-- The tasks that wait are tasks, differ, and have nothing of the lock. -/
theorem fresh_spec : ∀ (q : Waits) (seen : List Int), freshB seen q = true ↔ (∀ w ∈ q, taskB w.1 = true ∧ w.1 ∉ seen) ∧ (q.map (·.1)).Nodup
  | [], seen => by simp [freshB]
  | w :: r, seen => by
    unfold freshB
    rw [Bool.and_eq_true, Bool.and_eq_true, fresh_spec r (seen ++ [w.1])]
    simp only [List.mem_cons, List.map_cons, List.nodup_cons, List.mem_map]
    constructor
    · rintro ⟨h1, h2, h3, h4⟩
      refine ⟨fun x hx => ?_, fun ⟨y, hy, e⟩ => ?_, h4⟩
      · rcases hx with rfl | hx
        · exact ⟨h1, by simpa using h2⟩
        · exact ⟨(h3 x hx).1, fun hm => (h3 x hx).2 (List.mem_append_left _ hm)⟩
      · exact (h3 y hy).2 (by rw [e]; simp)
    · rintro ⟨h1, h2, h3⟩
      refine ⟨(h1 w (.inl rfl)).1, by simpa using (h1 w (.inl rfl)).2, fun x hx => ⟨(h1 x (.inr hx)).1, fun hm => ?_⟩, h3⟩
      rcases List.mem_append.1 hm with hm | hm
      · exact (h1 x (.inr hx)).2 hm
      · exact h2 ⟨x, hx, by simpa using hm⟩

end Go.Proofs.Ytnkbbfeaodppgaa
