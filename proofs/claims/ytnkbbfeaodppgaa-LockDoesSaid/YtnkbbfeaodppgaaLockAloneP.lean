/- LockAlone: plain. -/
import Derived.Test.YtnkbbfeaodppgaaLockServesW
namespace Go.Proofs.Ytnkbbfeaodppgaa
open Go.RowKit

/-- What a waiting task asked for. -/
def qMode : Waits → Int → Int
  | [], _ => 0
  | w :: q, t => if w.1 = t then (if w.2 = true then 2 else 1) else qMode q t
/-- What a task asked for: 2 to write, 1 to read, 0 nothing. -/
def modeOf (W : Int) (rs : List Int) (q : Waits) (t : Int) : Int := if W = t then 2 else if rs.contains t then 1 else qMode q t
theorem qMode_none {t : Int} : ∀ {q : Waits}, t ∉ q.map (·.1) → qMode q t = 0
  | [], _ => rfl
  | w :: q, h => by
    rw [qMode, if_neg (fun e => h (by simp [e]))]
    exact qMode_none fun hm => h (by rw [List.map_cons]; exact List.mem_cons_of_mem _ hm)
theorem qMode_some {t : Int} : ∀ {q : Waits}, t ∈ q.map (·.1) → qMode q t = 1 ∨ qMode q t = 2
  | [], h => by simp at h
  | w :: q, h => by
    rw [qMode]
    split
    · split
      · exact .inr rfl
      · exact .inl rfl
    · rename_i hne
      rw [List.map_cons] at h
      rcases List.mem_cons.1 h with e | h
      · exact absurd e.symm hne
      · exact qMode_some h
theorem qMode_snoc {t t' : Int} {b : Bool} : ∀ {q : Waits}, t ∉ q.map (·.1) → qMode (q ++ [(t, b)]) t' = if t' = t then (if b = true then 2 else 1) else qMode q t'
  | [], _ => by
    rw [List.nil_append, qMode, qMode]
    by_cases h : t' = t
    · rw [if_pos h, if_pos h.symm]
    · rw [if_neg h, if_neg (fun e => h e.symm)]; rfl
  | w :: q, h => by
    have h1 : t ≠ w.1 := fun e => h (by simp [e])
    have h2 : t ∉ q.map (·.1) := fun hm => h (by rw [List.map_cons]; exact List.mem_cons_of_mem _ hm)
    rw [List.cons_append, qMode, qMode, qMode_snoc h2]
    by_cases hw : w.1 = t'
    · rw [if_pos hw, if_pos hw, if_neg (show ¬ t' = t from fun e => h1 (hw.trans e).symm)]
    · rw [if_neg hw, if_neg hw]
theorem qMode_erase {t t' : Int} : ∀ {q : Waits} {i : Nat}, (q.map (·.1)).Nodup → (q.map (·.1))[i]? = some t → qMode (q.eraseIdx i) t' = if t' = t then 0 else qMode q t'
  | [], i, _, h => by simp at h
  | w :: q, 0, hd, h => by
    have hw : w.1 = t := by simpa using h
    rw [List.eraseIdx_cons_zero, qMode]
    have hn := (List.nodup_cons.1 hd).1
    by_cases e : t' = t
    · rw [if_pos e, e, ← hw]; exact qMode_none hn
    · rw [if_neg e, if_neg (fun e2 => e (by rw [← e2, hw]))]
  | w :: q, i + 1, hd, h => by
    have hi : (q.map (·.1))[i]? = some t := by simpa using h
    have hn := List.nodup_cons.1 hd
    have hwt : w.1 ≠ t := fun e => hn.1 (by show w.1 ∈ _; rw [e]; exact List.mem_of_getElem? hi)
    rw [List.eraseIdx_cons_succ, qMode, qMode, qMode_erase hn.2 hi]
    by_cases hw : w.1 = t'
    · rw [if_pos hw, if_pos hw, if_neg (show ¬ t' = t from fun e => hwt (hw.trans e))]
    · rw [if_neg hw, if_neg hw]
theorem contains_ins (rs : List Int) (t t' : Int) : (insL rs t).contains t' = (decide (t' = t) || rs.contains t') := by
  rw [Bool.eq_iff_iff, List.contains_iff_mem, insL_mem, Bool.or_eq_true, List.contains_iff_mem, decide_eq_true_iff]
theorem mode_grant (t' : Int) (ht' : t' ≠ -1) : ∀ (q : Waits) (W : Int) (rs : List Int), LP W rs q → modeOf (grantP W rs q).1 (grantP W rs q).2.1 (grantP W rs q).2.2.1 t' = modeOf W rs q t'
  | [], W, rs, _ => rfl
  | (t, b) :: q, W, rs, h => by
    cases hc : canB W rs b with
    | false => rw [grantP_no hc]
    | true =>
      obtain ⟨rfl, hr⟩ := canB_true hc
      have ht := taskB_ne (h.far (t, b) (by simp)).1
      have hn := (List.nodup_cons.1 h.nd).1
      cases b with
      | true =>
        have hr := hr rfl
        subst hr
        rw [grantP_w hc ht, grantP_held ht]
        simp only [appR]
        unfold modeOf
        rw [qMode]
        by_cases e : t = t'
        · subst e; simp [Ne.symm ht']
        · simp [e, Ne.symm ht']
      | false =>
        rw [grantP_r hc]
        simp only [appR]
        rw [mode_grant t' ht' q (-1) (insL rs t) h.read]
        unfold modeOf
        rw [contains_ins, qMode, if_neg (Ne.symm ht'), if_neg (Ne.symm ht')]
        by_cases e : t = t'
        · subst e
          simp
        · simp [e, Ne.symm e]
theorem mode_has {W : Int} {rs : List Int} {q : Waits} {t : Int} : (hasZ W rs q t = 0 ∧ modeOf W rs q t = 0) ∨ (0 < hasZ W rs q t ∧ modeOf W rs q t = hasZ W rs q t) ∨ (hasZ W rs q t = -1 ∧ (modeOf W rs q t = 1 ∨ modeOf W rs q t = 2)) := by
  rcases has_pos (W := W) (rs := rs) (q := q) (t := t) with ⟨h, h1⟩ | ⟨h, h1, h2⟩ | ⟨h, h1, h2, h3⟩ | ⟨h, h1, h2, h3⟩
  · right; left
    rw [h]; unfold modeOf; rw [if_pos h1]; exact ⟨by decide, rfl⟩
  · right; left
    rw [h]; unfold modeOf; rw [if_neg h1, if_pos (List.contains_iff_mem.2 h2)]; exact ⟨by decide, rfl⟩
  · right; right
    refine ⟨h, ?_⟩
    unfold modeOf; rw [if_neg h1, if_neg (fun hm => h2 (List.contains_iff_mem.1 hm))]; exact qMode_some h3
  · left
    refine ⟨h, ?_⟩
    unfold modeOf; rw [if_neg h1, if_neg (fun hm => h2 (List.contains_iff_mem.1 hm))]; exact qMode_none h3
/-- What was asked. -/
def Asked (az : List Int) (W : Int) (rs : List Int) (q : Waits) : Prop := az.length = 12 ∧ ∀ t : Nat, t < 12 → az[t]?.getD 0 = modeOf W rs q t
theorem Asked.set {az : List Int} {W W' : Int} {rs rs' : List Int} {q q' : Waits} {t : Nat} {v : Int} (h : Asked az W rs q) (ht : t < 12) (hs : ∀ t' : Int, 0 ≤ t' → modeOf W' rs' q' t' = if t' = t then v else modeOf W rs q t') : Asked (az.set t v) W' rs' q' := by
  refine ⟨by rw [List.length_set]; exact h.1, fun t' ht' => ?_⟩
  rw [hs t' (by omega), ← h.2 t' ht', List.getElem?_set]
  by_cases e : t = t'
  · subst e; simp [h.1, ht]
  · rw [if_neg e, if_neg (by omega)]
theorem task_nat {t : Nat} (h : t < 12) : taskB (t : Int) = true := taskB_iff.2 ⟨by omega, by omega⟩
theorem ask_step {W : Int} {rs : List Int} {q : Waits} {t : Nat} {b : Bool} {az : List Int} (h : LV W rs q) (ht : t < 12) (h0 : hasZ W rs q t = 0) (ha : Asked az W rs q) :
    ∃ W' rs' q' got, askZ W rs q t b = ((W', rs', q'), got, 0) ∧ LV W' rs' q' ∧ got = decide (0 < hasZ W' rs' q' t) ∧ Asked (az.set t (if b = true then 2 else 1)) W' rs' q' := by
  have htb := task_nat ht
  obtain ⟨h1, h2, h3⟩ := has_zero h0
  have hp := h.lp.snoc b htb h1 h2 h3
  have hL := hp.grant
  have hm : ∀ t' : Int, 0 ≤ t' → modeOf (grantP W rs (q ++ [((t : Int), b)])).1 (grantP W rs (q ++ [((t : Int), b)])).2.1 (grantP W rs (q ++ [((t : Int), b)])).2.2.1 t' = if t' = t then (if b = true then 2 else 1) else modeOf W rs q t' := fun t' ht' => by
    rw [mode_grant t' (by omega) _ _ _ hp]
    unfold modeOf
    rw [qMode_snoc h3]
    by_cases e : t' = t
    · rw [e, if_neg h1, if_neg (fun hm => h2 (List.contains_iff_mem.1 hm)), if_pos rfl, if_pos rfl]
    · rw [if_neg e, if_neg e]
  have haz : askZ W rs q t b = (lkOf (grantP W rs (q ++ [((t : Int), b)])), decide (0 < (grantP W rs (q ++ [((t : Int), b)])).2.2.2.length), 0) := by
    unfold askZ; rw [if_neg (by rw [h.both htb]; simp), if_neg (by rw [h0]; simp)]
  refine ⟨_, _, _, _, haz, hL, ?_, ha.set ht hm⟩
  by_cases hn : q ≠ [] ∨ canB W rs b = false
  · rw [ask_wait h hn]
    have : hasZ W rs (q ++ [((t : Int), b)]) t = -1 := by
      unfold hasZ
      rw [if_neg h1, if_neg (fun hm => h2 (List.contains_iff_mem.1 hm)), if_pos (by rw [List.contains_iff_mem]; simp)]
    show decide (0 < ([] : List Int).length) = decide (0 < hasZ W rs (q ++ [((t : Int), b)]) t)
    rw [this]; rfl
  · have hq : q = [] := Classical.byContradiction fun e => hn (.inl e)
    have hc : canB W rs b = true := by
      cases hc : canB W rs b with
      | true => rfl
      | false => exact absurd (.inr hc) hn
    subst hq
    obtain ⟨rfl, hr⟩ := canB_true hc
    cases b with
    | true =>
      have hr := hr rfl
      subst hr
      have hg : grantP (-1) [] ([] ++ [((t : Int), true)]) = ((t : Int), [], [], [(t : Int)]) := by
        rw [List.nil_append, grantP_w hc (taskB_ne htb), grantP_held (taskB_ne htb)]; rfl
      rw [hg]
      have : hasZ (t : Int) [] [] t = 2 := by unfold hasZ; rw [if_pos rfl]
      show decide (0 < [(t : Int)].length) = decide (0 < hasZ (t : Int) [] [] t)
      rw [this]; rfl
    | false =>
      have hg : grantP (-1) rs ([] ++ [((t : Int), false)]) = (-1, insL rs t, [], [(t : Int)]) := by
        rw [List.nil_append, grantP_r hc]; rfl
      rw [hg]
      have : hasZ (-1) (insL rs t) [] t = 1 := by
        unfold hasZ
        rw [if_neg (Ne.symm (taskB_ne htb)), if_pos]
        rw [List.contains_iff_mem]; exact (insL_mem _ _ rs).2 (.inl rfl)
      show decide (0 < [(t : Int)].length) = decide (0 < hasZ (-1) (insL rs t) [] t)
      rw [this]; rfl
theorem free_step2 {W : Int} {rs : List Int} {q : Waits} {t : Nat} {az : List Int} (h : LV W rs q) (ht : t < 12) (h0 : 0 < hasZ W rs q t) (ha : Asked az W rs q) :
    ∃ W' rs' q' ts, freeZ W rs q t = ((W', rs', q'), ts, 0) ∧ LV W' rs' q' ∧ Asked (az.set t 0) W' rs' q' := by
  have htb := task_nat ht
  rcases has_pos (W := W) (rs := rs) (q := q) (t := t) with ⟨hh, h1⟩ | ⟨hh, h1, h2⟩ | ⟨hh, h1, h2, h3⟩ | ⟨hh, h1, h2, h3⟩
  · have hrs : rs = [] := by
      rcases h.hw with e | ⟨_, e⟩
      · rw [e] at h1; exact absurd h1.symm (taskB_ne htb)
      · exact e
    have hp := h.lp.free
    refine ⟨_, _, _, (grantP (-1) rs q).2.2.2, ?_, hp.grant, ha.set ht fun t' ht' => ?_⟩
    · unfold freeZ
      rw [if_neg (by rw [h.both htb]; simp), hh, if_neg (by decide), if_pos rfl]
      rfl
    · rw [mode_grant t' (by omega) _ _ _ hp]
      subst hrs
      unfold modeOf
      have e1 : ¬ ((-1 : Int) = t') := by omega
      have e2 : ¬ (([] : List Int).contains t' = true) := by simp
      rw [if_neg e1, if_neg e2]
      by_cases e : t' = t
      · rw [if_pos e]
        refine qMode_none fun hm => ?_
        obtain ⟨w, hw, e2⟩ := List.mem_map.1 hm
        exact (h.lp.far w hw).2.2 (by rw [e2, e, h1])
      · have e3 : ¬ (W = t') := by rw [h1]; exact fun e2 => e e2.symm
        rw [if_neg e, if_neg e3]
  · have hW : W = -1 := by
      rcases h.hw with e | ⟨_, e⟩
      · exact e
      · rw [e] at h2; simp at h2
    subst hW
    have hp := h.lp.del t
    refine ⟨_, _, _, (grantP (-1) (delL rs t) q).2.2.2, ?_, hp.grant, ha.set ht fun t' ht' => ?_⟩
    · unfold freeZ
      rw [if_neg (by rw [h.both htb]; simp), hh, if_neg (by decide), if_neg (by decide)]
      rfl
    · rw [mode_grant t' (by omega) _ _ _ hp]
      unfold modeOf
      have e1 : ¬ ((-1 : Int) = t') := by omega
      rw [if_neg e1]
      by_cases e : t' = t
      · have e2 : ¬ ((delL rs t).contains t' = true) := fun hm => (delL_mem.1 (List.contains_iff_mem.1 hm)).2 e
        rw [if_pos e, if_neg e2]
        refine qMode_none fun hm => ?_
        obtain ⟨w, hw, e2⟩ := List.mem_map.1 hm
        exact (h.lp.far w hw).2.1 (by rw [e2, e]; exact h2)
      · have : (delL rs t).contains t' = rs.contains t' := by
          rw [Bool.eq_iff_iff, List.contains_iff_mem, List.contains_iff_mem, delL_mem]
          exact ⟨fun h => h.1, fun h => ⟨h, e⟩⟩
        rw [if_neg e, this, if_neg e1]
  · omega
  · omega
theorem leave_step {W : Int} {rs : List Int} {q : Waits} {t : Nat} {az : List Int} (h : LV W rs q) (ht : t < 12) (h0 : hasZ W rs q t = -1) (ha : Asked az W rs q) :
    ∃ W' rs' q' ts, leaveZ W rs q t = ((W', rs', q'), ts, 0) ∧ LV W' rs' q' ∧ Asked (az.set t 0) W' rs' q' := by
  have htb := task_nat ht
  rcases has_pos (W := W) (rs := rs) (q := q) (t := t) with ⟨hh, h1⟩ | ⟨hh, h1, h2⟩ | ⟨hh, h1, h2, h3⟩ | ⟨hh, h1, h2, h3⟩
  · omega
  · omega
  · obtain ⟨i, hi, hti, hid⟩ := idxN_mem h3
    have hp := h.lp.sub (List.eraseIdx_sublist q i)
    have hix : idxW q t = (i : Nat) := hid
    refine ⟨_, _, _, (grantP W rs (q.eraseIdx i)).2.2.2, ?_, hp.grant, ha.set ht fun t' ht' => ?_⟩
    · unfold leaveZ
      rw [if_neg (by rw [h.both htb]; simp), hix, if_neg (by omega), Int.toNat_natCast]
      rfl
    · rw [mode_grant t' (by omega) _ _ _ hp]
      unfold modeOf
      rw [qMode_erase h.lp.nd hti]
      by_cases e : t' = t
      · rw [e, if_neg h1, if_neg (fun hm => h2 (List.contains_iff_mem.1 hm)), if_pos rfl, if_pos rfl]
      · rw [if_neg e, if_neg e]
  · omega
theorem asked_new : Asked (List.replicate 12 0) (-1) [] [] := by
  refine ⟨by simp, fun t ht => ?_⟩
  unfold modeOf
  rw [if_neg (by omega), if_neg (by simp), qMode, List.getElem?_replicate, if_pos ht]
  rfl
theorem lv_new : LV (-1) [] [] := LV.of (by decide)

end Go.Proofs.Ytnkbbfeaodppgaa
