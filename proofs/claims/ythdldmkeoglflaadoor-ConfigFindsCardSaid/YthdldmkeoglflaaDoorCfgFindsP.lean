/- Finding what is there, and what was put in: plain laws. -/
import Derived.Test.YthdldmkeoglflaaDoorCfgOut
namespace Go.Proofs.YthdldmkeoglflaaDoor
open Go.RowKit

theorem lb_at {ps : Peers} (hi : Inc ps) {i : Nat} (h : i < ps.length) : lb ps (nm ps i) = i :=
  lb_char (Nat.le_of_lt h) (fun j hj => hi.lt i j hj h) (fun _ => sltB_irr _)
theorem has_at {ps : Peers} (hi : Inc ps) {i : Nat} (h : i < ps.length) : hasN ps (nm ps i) = true :=
  hasN_iff.2 ⟨by rw [lb_at hi h]; exact h, by rw [lb_at hi h]⟩
theorem find_at {ps : Peers} (hi : Inc ps) {i : Nat} (h : i < ps.length) : findR 0 ps (nm ps i) = (pu ps i, 0) := by
  unfold findR; rw [if_pos rfl, has_at hi h, lb_at hi h]; rfl
theorem dist_at {K : Int} {ps : Peers} (hd : distB K ps = true) {i : Nat} (h : i < ps.length) : pu ps i ≠ K ∧ ∀ j, j < i → pu ps j ≠ pu ps i := by
  have h1 := List.all_eq_true.1 hd i (List.mem_range.2 h)
  have h2 : dupB K ps i = false := by simpa using h1
  unfold dupB at h2
  rw [Bool.or_eq_false_iff, decide_eq_false_iff_not] at h2
  refine ⟨h2.1, fun j hj he => ?_⟩
  have : ((ps.take i).any fun p => p.2 == pu ps i) = true := List.any_eq_true.2 ⟨ps[j], List.mem_take_iff_getElem.2 ⟨j, by omega, rfl⟩, by rw [ps_at (by omega)]; simpa using he⟩
  rw [h2.2] at this; cases this
theorem pi_atI {K : Int} {ps : Peers} (hd : distB K ps = true) {i : Nat} (h : i < ps.length) : pi ps (pu ps i) = i :=
  pi_char (Nat.le_of_lt h) (fun j hj => (dist_at hd h).2 j hj) (fun _ => rfl)
theorem who_at {K : Int} {ps : Peers} (hd : distB K ps = true) {i : Nat} (h : i < ps.length) : whoR K 0 ps (pu ps i) = (nm ps i, 0) := by
  unfold whoR
  rw [if_pos rfl, if_neg (fun e => (dist_at hd h).1 e.symm), pi_atI hd h, if_pos h]
/-- The peers with one more. -/
def insP (ps : Peers) (k : Nat) (n : ByteArray) (q : Int) : Peers := ps.take k ++ (n, q) :: ps.drop k
theorem insP_len {ps : Peers} {k : Nat} (hk : k ≤ ps.length) (n : ByteArray) (q : Int) : (insP ps k n q).length = ps.length + 1 := by
  unfold insP; simp; omega
theorem insP_get {ps : Peers} {k : Nat} (hk : k ≤ ps.length) (n : ByteArray) (q : Int) (i : Nat) : (insP ps k n q)[i]? = if i < k then ps[i]? else if i = k then some (n, q) else ps[i - 1]? := by
  unfold insP
  by_cases h1 : i < k
  · rw [if_pos h1, List.getElem?_append_left (by rw [List.length_take]; omega), List.getElem?_take, if_pos h1]
  · rw [if_neg h1, List.getElem?_append_right (by rw [List.length_take]; omega), List.length_take, Nat.min_eq_left hk]
    by_cases h2 : i = k
    · rw [if_pos h2, h2, Nat.sub_self]; rfl
    · rw [if_neg h2]
      obtain ⟨j, hj⟩ : ∃ j, i - k = j + 1 := ⟨i - k - 1, by omega⟩
      rw [hj, List.getElem?_cons_succ, List.getElem?_drop, show k + j = i - 1 by omega]
theorem insP_nm {ps : Peers} {k : Nat} (hk : k ≤ ps.length) (n : ByteArray) (q : Int) (i : Nat) : nm (insP ps k n q) i = if i < k then nm ps i else if i = k then n else nm ps (i - 1) := by
  unfold nm; rw [insP_get hk]; (repeat' split) <;> simp
theorem insP_pu {ps : Peers} {k : Nat} (hk : k ≤ ps.length) (n : ByteArray) (q : Int) (i : Nat) : pu (insP ps k n q) i = if i < k then pu ps i else if i = k then q else pu ps (i - 1) := by
  unfold pu; rw [insP_get hk]; (repeat' split) <;> simp
theorem insP_erase {ps : Peers} {k : Nat} (hk : k ≤ ps.length) (n : ByteArray) (q : Int) : (insP ps k n q).eraseIdx k = ps := by
  unfold insP
  rw [List.eraseIdx_append_of_length_le (by rw [List.length_take]; omega), List.length_take, Nat.min_eq_left hk, Nat.sub_self, List.eraseIdx_cons_zero, List.take_append_drop]
/-- With one more in its place, the names increase still. -/
theorem insP_inc {ps : Peers} (hi : Inc ps) {n : ByteArray} (hh : hasN ps n = false) (q : Int) : Inc (insP ps (lb ps n) n q) := by
  have hk := lb_le ps n
  intro i h0 hl
  rw [insP_len hk] at hl
  rw [insP_nm hk, insP_nm hk]
  have hge : lb ps n < ps.length → sltB n (nm ps (lb ps n)) = true := fun h => by
    refine sltB_tot (lb_ge h) ?_
    cases h2 : seqB (nm ps (lb ps n)) n
    · rfl
    · rw [hasN_iff.2 ⟨h, seqB_iff.1 h2⟩] at hh; cases hh
  by_cases h1 : i < lb ps n
  · rw [if_pos (by omega), if_pos h1]; exact hi i h0 (by omega)
  · by_cases h2 : i = lb ps n
    · rw [if_pos (by omega), if_neg h1, if_pos h2]; exact lb_lt (by omega)
    · by_cases h3 : i - 1 = lb ps n
      · rw [if_neg (by omega), if_pos h3, if_neg h1, if_neg h2, h3]; exact hge (by omega)
      · rw [if_neg (by omega), if_neg h3, if_neg h1, if_neg h2]; exact hi (i - 1) (by omega) (by omega)
theorem distB_of {K : Int} {ps : Peers} (h : ∀ i, i < ps.length → pu ps i ≠ K ∧ ∀ j, j < i → pu ps j ≠ pu ps i) : distB K ps = true :=
  distB_all fun i hi => by
    unfold dupB
    rw [Bool.or_eq_false_iff, decide_eq_false_iff_not]
    refine ⟨(h i hi).1, ?_⟩
    cases h2 : (ps.take i).any fun p => p.2 == pu ps i
    · rfl
    · obtain ⟨x, hx, he⟩ := List.any_eq_true.1 h2
      obtain ⟨j, hj, rfl⟩ := List.mem_take_iff_getElem.1 hx
      rw [ps_at (by omega), beq_iff_eq] at he
      exact absurd he ((h i hi).2 j (by omega))

theorem pi_none {ps : Peers} {q : Int} (h : ¬ pi ps q < ps.length) : ∀ j, j < ps.length → pu ps j ≠ q := fun j hj => pi_lt (by omega)
theorem insP_dist {K : Int} {ps : Peers} (hd : distB K ps = true) {k : Nat} (hk : k ≤ ps.length) (n : ByteArray) {q : Int} (hq : K ≠ q) (hn : ∀ j, j < ps.length → pu ps j ≠ q) : distB K (insP ps k n q) = true := by
  refine distB_of fun i hi => ?_
  rw [insP_len hk] at hi
  rw [insP_pu hk]
  have hinj : ∀ a b, a < ps.length → b < ps.length → a ≠ b → pu ps a ≠ pu ps b := fun a b ha hb hab => by
    rcases Nat.lt_or_gt_of_ne hab with h | h
    · exact (dist_at hd hb).2 a h
    · exact fun e => (dist_at hd ha).2 b h e.symm
  constructor
  · split
    · exact (dist_at hd (by omega)).1
    · split
      · exact fun e => hq e.symm
      · exact (dist_at hd (by omega)).1
  · intro j hj
    rw [insP_pu hk]
    by_cases i1 : i < k
    · rw [if_pos i1, if_pos (by omega)]; exact hinj _ _ (by omega) (by omega) (by omega)
    · by_cases i2 : i = k
      · rw [if_neg i1, if_pos i2, if_pos (by omega)]; exact hn j (by omega)
      · rw [if_neg i1, if_neg i2]
        by_cases j1 : j < k
        · rw [if_pos j1]; exact hinj _ _ (by omega) (by omega) (by omega)
        · by_cases j2 : j = k
          · rw [if_neg j1, if_pos j2]; exact fun e => hn (i - 1) (by omega) e.symm
          · rw [if_neg j1, if_neg j2]; exact hinj _ _ (by omega) (by omega) (by omega)
theorem insP_cv {L : Lim} {s : Int} {ps : Peers} (h : CV L s ps) {n : ByteArray} {q : Int} (hv : (okN n && isB q) = true) (hh : hasN ps n = false) (hw : ¬ whoN (pubK s) ps q < ps.length) (h8 : ps.length ≠ 8) : CV L s (insP ps (lb ps n) n q) := by
  have hk := lb_le ps n
  have hq : pubK s ≠ q := fun e => hw (by unfold whoN; rw [if_pos e]; omega)
  have hp : ¬ pi ps q < ps.length := fun e => hw (by unfold whoN; rw [if_neg hq]; omega)
  refine ⟨h.fit, h.s1, h.s5, by rw [insP_len hk]; have := h.len; omega, ?_, insP_inc h.inc hh q, insP_dist h.dist hk n hq (pi_none hp)⟩
  have h1 : ∀ p ∈ ps, vP p = true := fun p hp => by
    cases h2 : vP p
    · have : (ps.any fun p => !vP p) = true := List.any_eq_true.2 ⟨p, hp, by rw [h2]; rfl⟩
      rw [h.ok] at this; cases this
    · rfl
  cases h3 : (insP ps (lb ps n) n q).any fun p => !vP p
  · rfl
  · obtain ⟨p, hp, he⟩ := List.any_eq_true.1 h3
    unfold insP at hp
    rcases List.mem_append.1 hp with hp | hp
    · rw [h1 p (List.mem_of_mem_take hp)] at he; cases he
    · rcases List.mem_cons.1 hp with rfl | hp
      · unfold vP at he; simp only at he; rw [hv] at he; cases he
      · rw [h1 p (List.mem_of_mem_drop hp)] at he; cases he
/-- What With returns of a valid setup: it is refused, or one more is in its place. -/
theorem with_cases {L : Lim} {s : Int} {ps : Peers} (h : CV L s ps) (n : ByteArray) (q : Int) :
    (∃ e, withR L s ps n q 0 = zOut e ∧ (e = 8 ∨ e = 14 ∨ e = 18 ∧ ps.length = 8)) ∨ (withR L s ps n q 0 = ⟨L, s, insP ps (lb ps n) n q, 0⟩ ∧ CV L s (insP ps (lb ps n) n q) ∧ hasN ps n = false) := by
  unfold withR
  rw [if_pos rfl]
  cases hv : (okN n && isB q)
  · exact .inl ⟨8, rfl, .inl rfl⟩
  · cases hh : hasN ps n
    · by_cases hw : whoN (pubK s) ps q < ps.length
      · left; exact ⟨14, by rw [if_pos rfl, if_neg (by decide), if_pos hw], .inr (.inl rfl)⟩
      · by_cases h8 : ps.length = 8
        · left; exact ⟨18, by rw [if_pos rfl, if_neg (by decide), if_neg hw, if_pos h8], .inr (.inr ⟨rfl, h8⟩)⟩
        · right; exact ⟨by rw [if_pos rfl, if_neg (by decide), if_neg hw, if_neg h8]; rfl, insP_cv h hv hh hw h8, rfl⟩
    · left; exact ⟨14, by simp, .inr (.inl rfl)⟩
/-- In what With gave: the one that was put in. -/
theorem put_at {ps : Peers} (n : ByteArray) (q : Int) : lb ps n < (insP ps (lb ps n) n q).length ∧ nm (insP ps (lb ps n) n q) (lb ps n) = n ∧ pu (insP ps (lb ps n) n q) (lb ps n) = q := by
  have hk := lb_le ps n
  refine ⟨by rw [insP_len hk]; omega, ?_, ?_⟩
  · rw [insP_nm hk, if_neg (by omega), if_pos rfl]
  · rw [insP_pu hk, if_neg (by omega), if_pos rfl]
/-- .. and those that were there. -/
theorem old_at {ps : Peers} (n : ByteArray) (q : Int) {i : Nat} (hi : i < ps.length) : ∃ j, j < (insP ps (lb ps n) n q).length ∧ nm (insP ps (lb ps n) n q) j = nm ps i ∧ pu (insP ps (lb ps n) n q) j = pu ps i := by
  have hk := lb_le ps n
  by_cases h : i < lb ps n
  · exact ⟨i, by rw [insP_len hk]; omega, by rw [insP_nm hk, if_pos h], by rw [insP_pu hk, if_pos h]⟩
  · exact ⟨i + 1, by rw [insP_len hk]; omega, by rw [insP_nm hk, if_neg (by omega), if_neg (by omega)]; rfl, by rw [insP_pu hk, if_neg (by omega), if_neg (by omega)]; rfl⟩
theorem find_put {L : Lim} {s : Int} {ps : Peers} {n : ByteArray} {q : Int} (h : CV L s (insP ps (lb ps n) n q)) : findR 0 (insP ps (lb ps n) n q) n = (q, 0) := by
  obtain ⟨h1, h2, h3⟩ := put_at (ps := ps) n q
  have := find_at h.inc h1
  rwa [h2, h3] at this
theorem find_old {L : Lim} {s : Int} {ps : Peers} {n : ByteArray} {q : Int} (h : CV L s (insP ps (lb ps n) n q)) {i : Nat} (hi : i < ps.length) : findR 0 (insP ps (lb ps n) n q) (nm ps i) = (pu ps i, 0) := by
  obtain ⟨j, h1, h2, h3⟩ := old_at (ps := ps) n q hi
  have := find_at h.inc h1
  rwa [h2, h3] at this
theorem who_put {L : Lim} {s : Int} {ps : Peers} {n : ByteArray} {q : Int} (h : CV L s (insP ps (lb ps n) n q)) : whoR (pubK s) 0 (insP ps (lb ps n) n q) q = (n, 0) := by
  obtain ⟨h1, h2, h3⟩ := put_at (ps := ps) n q
  have := who_at h.dist h1
  rwa [h2, h3] at this
theorem without_put {L : Lim} {s : Int} {ps : Peers} {n : ByteArray} {q : Int} (h : CV L s (insP ps (lb ps n) n q)) : withoutR L s (insP ps (lb ps n) n q) n 0 = ⟨L, s, ps, 0⟩ := by
  obtain ⟨h1, h2, h3⟩ := put_at (ps := ps) n q
  have e1 := lb_at h.inc h1
  have e2 := has_at h.inc h1
  rw [h2] at e1 e2
  unfold withoutR
  rw [if_pos rfl, e2, e1, insP_erase (lb_le ps n)]
  rfl

end Go.Proofs.YthdldmkeoglflaaDoor
