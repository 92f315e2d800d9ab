/- LockServes: plain. -/
import Derived.Test.YtnkbbfeaodppgaaLockLeavesW
namespace Go.Proofs.Ytnkbbfeaodppgaa
open Go.RowKit

/-- How many a lock names. -/
def cntL (W : Int) (rs : List Int) (q : Waits) : Nat := rs.length + (if W = -1 then 0 else 1) + q.length
theorem cnt_grant : ∀ (q : Waits) (W : Int) (rs : List Int), LP W rs q → cntL (grantP W rs q).1 (grantP W rs q).2.1 (grantP W rs q).2.2.1 = cntL W rs q
  | [], W, rs, _ => rfl
  | (t, b) :: q, W, rs, h => by
    cases hc : canB W rs b with
    | false => rw [grantP_no hc]
    | true =>
      obtain ⟨rfl, hr⟩ := canB_true hc
      have ht := taskB_ne (h.far (t, b) (by simp)).1
      cases b with
      | true =>
        rw [grantP_w hc ht, grantP_held ht]
        simp [appR, cntL, ht]
        omega
      | false =>
        rw [grantP_r hc]
        have := cnt_grant q (-1) (insL rs t) h.read
        simp only [appR]
        rw [this]
        simp [cntL, insL_len]
        omega
theorem cnt_le {W : Int} {rs : List Int} {q : Waits} (h : LV W rs q) : cntL W rs q ≤ 12 := by
  have := tasks_len h.all.2 h.all.1
  have e : (allL W rs q).length = cntL W rs q := by
    unfold allL seenL cntL
    split <;> simp <;> omega
  omega
theorem idle_q {rs : List Int} {q : Waits} (h : LV (-1) rs q) (hr : rs = []) : q = [] := by
  rcases h.hc with e | e
  · exact e
  · subst hr
    exfalso
    unfold canB at e
    revert e
    cases md q 0 <;> decide
theorem delL_len {rs : List Int} {t : Int} (h : rs.Pairwise (· < ·)) (hm : t ∈ rs) : (delL rs t).length + 1 = rs.length := by
  obtain ⟨i, hi, hti, _⟩ := idxN_mem hm
  rw [delL_at rs i h hti, List.length_eraseIdx_of_lt hi]
  omega
/-- One that has it frees it. -/
theorem free_step {W : Int} {rs : List Int} {q : Waits} {t : Int} (h : LV W rs q) (ht : (W ≠ -1 ∧ t = W) ∨ (W = -1 ∧ t ∈ rs)) :
    ∃ W' rs' q' ts, freeZ W rs q t = ((W', rs', q'), ts, 0) ∧ LV W' rs' q' ∧ ts ++ q'.map (·.1) = q.map (·.1) ∧ cntL W' rs' q' + 1 = cntL W rs q := by
  rcases ht with ⟨hW, rfl⟩ | ⟨rfl, hm⟩
  · obtain ⟨hwt, hrs⟩ := h.hw.resolve_left hW
    have hp := h.lp.free
    refine ⟨_, _, _, _, ?_, hp.grant, grantP_all _ _ _, ?_⟩
    · have hh : hasZ t rs q t = 2 := by unfold hasZ; rw [if_pos rfl]
      unfold freeZ
      rw [if_neg (by rw [h.both hwt]; simp), hh, if_neg (by decide), if_pos rfl]
      rfl
    · rw [cnt_grant _ _ _ hp]
      simp [cntL, hW]
      omega
  · have hwt := h.lp.tk t hm
    have hp := h.lp.del t
    refine ⟨_, _, _, _, ?_, hp.grant, grantP_all _ _ _, ?_⟩
    · have hh : hasZ (-1) rs q t = 1 := by
        unfold hasZ; rw [if_neg (Ne.symm (taskB_ne hwt)), if_pos (List.contains_iff_mem.2 hm)]
      unfold freeZ
      rw [if_neg (by rw [h.both hwt]; simp), hh, if_neg (by decide), if_neg (by decide)]
      rfl
    · rw [cnt_grant _ _ _ hp]
      have := delL_len h.lp.inc hm
      simp [cntL]
      omega

end Go.Proofs.Ytnkbbfeaodppgaa
