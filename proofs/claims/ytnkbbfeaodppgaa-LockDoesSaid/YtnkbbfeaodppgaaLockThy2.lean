/- Asking, freeing, leaving keep locks valid. -/
import Derived.Test.YtnkbbfeaodppgaaLockAlive
namespace Go.Proofs.Ytnkbbfeaodppgaa
open Go.RowKit

/-- A lock that is valid but that its first waiting task may have it. -/
structure LP (W : Int) (rs : List Int) (q : Waits) : Prop where
  inc : rs.Pairwise (· < ·)
  tk : ∀ x ∈ rs, taskB x = true
  hw : W = -1 ∨ (taskB W = true ∧ rs = [])
  far : ∀ w ∈ q, taskB w.1 = true ∧ w.1 ∉ rs ∧ w.1 ≠ W
  nd : (q.map (·.1)).Nodup
theorem taskB_ne {t : Int} (h : taskB t = true) : t ≠ -1 := fun e => by rw [e] at h; exact absurd h (by decide)
theorem seen_mem {W : Int} {rs : List Int} {x : Int} : x ∈ seenL W rs ↔ x ∈ rs ∨ (W ≠ -1 ∧ x = W) := by
  unfold seenL
  split
  · rename_i h; simp [h]
  · rename_i h; simp [h]
theorem LV.lp {W : Int} {rs : List Int} {q : Waits} (h : LV W rs q) : LP W rs q := by
  have hf := (fresh_spec q (seenL W rs)).1 h.hq
  refine ⟨rsOk_inc h.hr, rsOk_tasks h.hr, h.hw, fun w hw => ?_, hf.2⟩
  obtain ⟨h1, h2⟩ := hf.1 w hw
  refine ⟨h1, fun hm => h2 (seen_mem.2 (.inl hm)), fun e => h2 (seen_mem.2 (.inr ⟨?_, e⟩))⟩
  rw [← e]; exact taskB_ne h1
theorem rsOk_of {rs : List Int} (h1 : rs.Pairwise (· < ·)) (h2 : ∀ x ∈ rs, taskB x = true) : rsOk rs = true := by
  refine rsOk_good fun i hi => ?_
  unfold rsBad
  rw [List.getElem?_eq_getElem hi]
  simp only [Option.getD_some]
  rw [h2 _ (List.getElem_mem hi)]
  cases i with
  | zero => rfl
  | succ i =>
    have := List.pairwise_iff_getElem.1 h1 i (i + 1) (by omega) hi (by omega)
    rw [Nat.add_sub_cancel, List.getElem?_eq_getElem (by omega)]
    simp; omega
theorem LP.lv {W : Int} {rs : List Int} {q : Waits} (h : LP W rs q) (hc : q = [] ∨ canB W rs (md q 0) = false) : LV W rs q :=
  ⟨rsOk_of h.inc h.tk, h.hw, (fresh_spec q _).2 ⟨fun w hw => ⟨(h.far w hw).1, fun hm => by
    rcases seen_mem.1 hm with hm | ⟨_, e⟩
    · exact (h.far w hw).2.1 hm
    · exact (h.far w hw).2.2 e⟩, h.nd⟩, hc⟩
theorem canB_true {W : Int} {rs : List Int} {b : Bool} (h : canB W rs b = true) : W = -1 ∧ (b = true → rs = []) := by
  unfold canB at h
  rw [Bool.and_eq_true] at h
  refine ⟨by simpa using h.1, fun hb => ?_⟩
  subst hb
  have : rs.length == 0 := by simpa using h.2
  exact List.eq_nil_of_length_eq_zero (by simpa using this)
theorem LP.tail {W : Int} {rs : List Int} {w : Int × Bool} {q : Waits} (h : LP W rs (w :: q)) : LP W rs q := ⟨h.inc, h.tk, h.hw, fun v hv => h.far v (List.mem_cons_of_mem _ hv), (List.nodup_cons.1 h.nd).2⟩
theorem LP.write {rs : List Int} {t : Int} {q : Waits} (h : LP (-1) rs ((t, true) :: q)) (hr : rs = []) : LP t rs q := by
  subst hr
  refine ⟨.nil, by simp, .inr ⟨(h.far (t, true) (by simp)).1, rfl⟩, fun v hv => ⟨(h.far v (List.mem_cons_of_mem _ hv)).1, by simp, fun e => ?_⟩, (List.nodup_cons.1 h.nd).2⟩
  exact (List.nodup_cons.1 h.nd).1 (List.mem_map.2 ⟨v, hv, e⟩)
theorem LP.read {rs : List Int} {t : Int} {b : Bool} {q : Waits} (h : LP (-1) rs ((t, b) :: q)) : LP (-1) (insL rs t) q := by
  have ht := h.far (t, b) (by simp)
  refine ⟨insL_inc t rs h.inc ht.2.1, fun x hx => ?_, .inl rfl, fun v hv => ?_, (List.nodup_cons.1 h.nd).2⟩
  · rcases (insL_mem t x rs).1 hx with e | hx
    · rw [e]; exact ht.1
    · exact h.tk x hx
  · have hf := h.far v (List.mem_cons_of_mem _ hv)
    refine ⟨hf.1, fun hm => ?_, hf.2.2⟩
    rcases (insL_mem t v.1 rs).1 hm with e | hm
    · exact (List.nodup_cons.1 h.nd).1 (List.mem_map.2 ⟨v, hv, e⟩)
    · exact hf.2.1 hm
theorem LP.grant : ∀ (q : Waits) (W : Int) (rs : List Int), LP W rs q → LV (grantP W rs q).1 (grantP W rs q).2.1 (grantP W rs q).2.2.1
  | [], W, rs, h => h.lv (.inl rfl)
  | (t, b) :: q, W, rs, h => by
    cases hc : canB W rs b with
    | false => rw [grantP_no hc]; exact h.lv (.inr hc)
    | true =>
      obtain ⟨rfl, hr⟩ := canB_true hc
      cases b with
      | true =>
        rw [grantP_w hc (taskB_ne (h.far (t, true) (by simp)).1), grantP_held (taskB_ne (h.far (t, true) (by simp)).1)]
        exact (h.write (hr rfl)).lv (by
          cases q with
          | nil => exact .inl rfl
          | cons x r => exact .inr (canB_w (taskB_ne (h.far (t, true) (by simp)).1)))
      | false =>
        rw [grantP_r hc]
        exact LP.grant q (-1) (insL rs t) h.read
theorem LP.snoc {W : Int} {rs : List Int} {q : Waits} (h : LP W rs q) {t : Int} (b : Bool) (h0 : taskB t = true) (h1 : W ≠ t) (h2 : t ∉ rs) (h3 : t ∉ q.map (·.1)) : LP W rs (q ++ [(t, b)]) := by
  refine ⟨h.inc, h.tk, h.hw, fun w hw => ?_, ?_⟩
  · rcases List.mem_append.1 hw with hw | hw
    · exact h.far w hw
    · obtain rfl := List.mem_singleton.1 hw
      exact ⟨h0, h2, fun e => h1 e.symm⟩
  · rw [List.map_append, List.nodup_append]
    exact ⟨h.nd, by simp, fun x hx y hy e => h3 (by simp at hy; rw [← hy, ← e]; exact hx)⟩
theorem LP.del {W : Int} {rs : List Int} {q : Waits} (h : LP W rs q) (t : Int) : LP W (delL rs t) q :=
  ⟨delL_inc h.inc, fun x hx => h.tk x (delL_mem.1 hx).1, h.hw.imp_right fun ⟨e1, e2⟩ => ⟨e1, by rw [e2]; rfl⟩, fun w hw => ⟨(h.far w hw).1, fun hm => (h.far w hw).2.1 (delL_mem.1 hm).1, (h.far w hw).2.2⟩, h.nd⟩
theorem LP.free {W : Int} {rs : List Int} {q : Waits} (h : LP W rs q) : LP (-1) rs q :=
  ⟨h.inc, h.tk, .inl rfl, fun w hw => ⟨(h.far w hw).1, (h.far w hw).2.1, taskB_ne (h.far w hw).1⟩, h.nd⟩
theorem LP.sub {W : Int} {rs : List Int} {q q' : Waits} (h : LP W rs q) (hs : q'.Sublist q) : LP W rs q' :=
  ⟨h.inc, h.tk, h.hw, fun w hw => h.far w (hs.subset hw), h.nd.sublist (hs.map _)⟩
theorem LV.both {W : Int} {rs : List Int} {q : Waits} (h : LV W rs q) {t : Int} (ht : taskB t = true) : bothZ W rs q t = 0 := by
  unfold bothZ; rw [h.err, if_neg (by decide), if_pos ht]
theorem LV.still {W : Int} {rs : List Int} {q : Waits} (h : LV W rs q) : grantP W rs q = (W, rs, q, []) := by
  cases q with
  | nil => rfl
  | cons x r =>
    obtain ⟨t, b⟩ := x
    rcases h.hc with e | e
    · cases e
    · exact grantP_no e
theorem has_pos {W : Int} {rs : List Int} {q : Waits} {t : Int} : hasZ W rs q t = 2 ∧ W = t ∨ hasZ W rs q t = 1 ∧ W ≠ t ∧ t ∈ rs ∨ hasZ W rs q t = -1 ∧ W ≠ t ∧ t ∉ rs ∧ t ∈ q.map (·.1) ∨ hasZ W rs q t = 0 ∧ W ≠ t ∧ t ∉ rs ∧ t ∉ q.map (·.1) := by
  unfold hasZ
  split
  · exact .inl ⟨rfl, ‹_›⟩
  · split
    · rename_i h1 h2; exact .inr (.inl ⟨rfl, h1, by simpa using h2⟩)
    · split
      · rename_i h1 h2 h3; exact .inr (.inr (.inl ⟨rfl, h1, by simpa using h2, by simpa using h3⟩))
      · rename_i h1 h2 h3; exact .inr (.inr (.inr ⟨rfl, h1, by simpa using h2, by simpa using h3⟩))
/-- Where nobody is granted. -/
theorem ask_wait {W : Int} {rs : List Int} {q : Waits} {t : Int} {b : Bool} (h : LV W rs q) (hn : q ≠ [] ∨ canB W rs b = false) : grantP W rs (q ++ [(t, b)]) = (W, rs, q ++ [(t, b)], []) := by
  cases q with
  | nil =>
    rcases hn with e | e
    · exact absurd rfl e
    · exact grantP_no e
  | cons x r =>
    obtain ⟨t', b'⟩ := x
    rcases h.hc with e | e
    · cases e
    · exact grantP_no e
theorem idxW_last {q : Waits} {t : Int} {b : Bool} (h : t ∉ q.map (·.1)) : idxW (q ++ [(t, b)]) t = q.length := by
  refine idxN_at (by simp) ?_ fun j hj => ?_
  · simp
  · rw [List.map_append, List.getElem?_append_left (by simpa using hj), List.getElem?_eq_getElem (by simpa using hj)]
    intro e
    exact h (by rw [← show (q.map (·.1))[j]'(by simpa using hj) = t from e]; exact List.getElem_mem _)
theorem erase_last (q : Waits) (x : Int × Bool) : (q ++ [x]).eraseIdx q.length = q := by
  rw [List.eraseIdx_append_of_length_le (Nat.le_refl _)]; simp
theorem delL_ins {rs : List Int} {t : Int} (h : t ∉ rs) : delL (insL rs t) t = rs := by
  unfold delL insL
  rw [List.filter_append, List.filter_append]
  have h1 : ∀ xs : List Int, (∀ x ∈ xs, x ∈ rs) → xs.filter (· != t) = xs := fun xs hx => List.filter_eq_self.2 fun x hxm => by
    have := hx x hxm
    simp only [bne_iff_ne, ne_eq]
    exact fun e => h (e ▸ this)
  rw [h1 _ fun x hx => List.mem_of_mem_take hx, h1 _ fun x hx => List.mem_of_mem_drop hx]
  simp
/-- Asking, and leaving or freeing at once. -/
theorem ask_back {W : Int} {rs : List Int} {q : Waits} {t : Int} {b : Bool} (h : LV W rs q) (ht : taskB t = true) (h0 : hasZ W rs q t = 0) :
    ∃ W' rs' q' got, askZ W rs q t b = ((W', rs', q'), got, 0) ∧ LV W' rs' q' ∧ rs'.length ≤ rs.length + 1 ∧ q'.length ≤ q.length + 1 ∧
      (got = true → q = [] ∧ freeZ W' rs' q' t = ((W, rs, q), [], 0)) ∧ (got = false → leaveZ W' rs' q' t = ((W, rs, q), [], 0)) := by
  obtain ⟨h1, h2, h3⟩ := has_zero h0
  have hp := h.lp.snoc b ht h1 h2 h3
  have hL := hp.grant
  have ha : askZ W rs q t b = (lkOf (grantP W rs (q ++ [(t, b)])), decide (0 < (grantP W rs (q ++ [(t, b)])).2.2.2.length), 0) := by
    unfold askZ; rw [if_neg (by rw [h.both ht]; simp), if_neg (by rw [h0]; simp)]
  by_cases hn : q ≠ [] ∨ canB W rs b = false
  · have hg := ask_wait (t := t) h hn
    rw [hg] at ha hL
    refine ⟨W, rs, q ++ [(t, b)], false, ha, hL, by omega, by simp, fun e => (by cases e), fun _ => ?_⟩
    unfold leaveZ
    rw [if_neg (by rw [hL.both ht]; simp), idxW_last h3, if_neg (by omega), Int.toNat_natCast, erase_last, h.still]
    rfl
  · have hq : q = [] := Classical.byContradiction fun e => hn (.inl e)
    have hc : canB W rs b = true := by
      cases hc : canB W rs b with
      | true => rfl
      | false => exact absurd (.inr hc) hn
    subst hq
    obtain ⟨rfl, hr⟩ := canB_true hc
    cases b with
    | true =>
      have hr := hr rfl
      subst hr
      have hg : grantP (-1) [] ([] ++ [(t, true)]) = (t, [], [], [t]) := by
        rw [List.nil_append, grantP_w hc (taskB_ne ht), grantP_held (taskB_ne ht)]; rfl
      rw [hg] at ha hL
      refine ⟨t, [], [], true, ha, hL, by simp, by simp, fun _ => ⟨rfl, ?_⟩, fun e => (by cases e)⟩
      have hh : hasZ t [] [] t = 2 := by unfold hasZ; rw [if_pos rfl]
      unfold freeZ
      rw [if_neg (by rw [hL.both ht]; simp), hh, if_neg (by decide), if_pos rfl]
      rfl
    | false =>
      have hg : grantP (-1) rs ([] ++ [(t, false)]) = (-1, insL rs t, [], [t]) := by
        rw [List.nil_append, grantP_r hc]; rfl
      rw [hg] at ha hL
      refine ⟨-1, insL rs t, [], true, ha, hL, by rw [insL_len]; omega, by simp, fun _ => ⟨rfl, ?_⟩, fun e => (by cases e)⟩
      have hh : hasZ (-1) (insL rs t) [] t = 1 := by
        unfold hasZ
        rw [if_neg (Ne.symm (taskB_ne ht)), if_pos]
        rw [List.contains_iff_mem]; exact (insL_mem t t rs).2 (.inl rfl)
      unfold freeZ
      rw [if_neg (by rw [hL.both ht]; simp), hh, if_neg (by decide), if_neg (by decide), delL_ins h2]
      rfl

end Go.Proofs.Ytnkbbfeaodppgaa
