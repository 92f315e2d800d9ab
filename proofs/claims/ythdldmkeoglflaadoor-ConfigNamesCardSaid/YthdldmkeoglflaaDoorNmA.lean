/- NmA: CfgFindsP, CfgNamesC, CfgNmB, CfgNmX, CfgNmY, CfgNmF, CfgNmI. -/
import Derived.Test.YthdldmkeoglflaaDoorCfgOut
import Derived.Test.YthdldmkeoglflaaDoorCfgParse
import Derived.Test.YthdldmkeoglflaaDoorCfgTxtE
import Derived.Test.YthdldmkeoglflaaDoorCfgSame
import Derived.Test.YthdldmkeoglflaaDoorCfgOpen
import Derived.Deep.Cut
import Derived.Laws.IdiomStrings
import Derived.Test.YthdldmkeoglflaaDoorCfgWith
import Derived.Test.YthdldmkeoglflaaDoorRegFrame
/- Finding what is there, and what was put in: plain laws. -/
namespace Go.Proofs.YthdldmkeoglflaaDoor
open Go.RowKit

theorem lb_at {ps : Peers} (hi : Inc ps) {i : Nat} (h : i < ps.length) : lb ps (nm ps i) = i :=
  lb_char (Nat.le_of_lt h) (fun j hj => hi.lt i j hj h) (fun _ => sltB_irr _)
theorem has_at {ps : Peers} (hi : Inc ps) {i : Nat} (h : i < ps.length) : hasN ps (nm ps i) = true :=
  hasN_iff.2 ⟨by rw [lb_at hi h]; exact h, by rw [lb_at hi h]⟩
theorem find_at {ps : Peers} (hi : Inc ps) {i : Nat} (h : i < ps.length) : findR 0 ps (nm ps i) = (pu ps i, 0) := by
  unfold findR; rw [if_pos rfl, has_at hi h, lb_at hi h]; rfl
theorem dist_at {K : Int} {ps : Peers} (hd : distB K ps = true) {i : Nat} (h : i < ps.length) : pu ps i ≠ K ∧ ∀ j, j < i → pu ps j ≠ pu ps i := by
  have h1 := List.all_eq_true.1 hd i (List.mem_range.2 h)
  have h2 : dupB K ps i = false := by simpa using h1
  unfold dupB at h2
  rw [Bool.or_eq_false_iff, decide_eq_false_iff_not] at h2
  refine ⟨h2.1, fun j hj he => ?_⟩
  have : ((ps.take i).any fun p => p.2 == pu ps i) = true := List.any_eq_true.2 ⟨ps[j], List.mem_take_iff_getElem.2 ⟨j, by omega, rfl⟩, by rw [ps_at (by omega)]; simpa using he⟩
  rw [h2.2] at this; cases this
theorem pi_atI {K : Int} {ps : Peers} (hd : distB K ps = true) {i : Nat} (h : i < ps.length) : pi ps (pu ps i) = i :=
  pi_char (Nat.le_of_lt h) (fun j hj => (dist_at hd h).2 j hj) (fun _ => rfl)
theorem who_at {K : Int} {ps : Peers} (hd : distB K ps = true) {i : Nat} (h : i < ps.length) : whoR K 0 ps (pu ps i) = (nm ps i, 0) := by
  unfold whoR
  rw [if_pos rfl, if_neg (fun e => (dist_at hd h).1 e.symm), pi_atI hd h, if_pos h]
/-- The peers with one more. -/
def insP (ps : Peers) (k : Nat) (n : ByteArray) (q : Int) : Peers := ps.take k ++ (n, q) :: ps.drop k
theorem insP_len {ps : Peers} {k : Nat} (hk : k ≤ ps.length) (n : ByteArray) (q : Int) : (insP ps k n q).length = ps.length + 1 := by
  unfold insP; simp; omega
theorem insP_get {ps : Peers} {k : Nat} (hk : k ≤ ps.length) (n : ByteArray) (q : Int) (i : Nat) : (insP ps k n q)[i]? = if i < k then ps[i]? else if i = k then some (n, q) else ps[i - 1]? := by
  unfold insP
  by_cases h1 : i < k
  · rw [if_pos h1, List.getElem?_append_left (by rw [List.length_take]; omega), List.getElem?_take, if_pos h1]
  · rw [if_neg h1, List.getElem?_append_right (by rw [List.length_take]; omega), List.length_take, Nat.min_eq_left hk]
    by_cases h2 : i = k
    · rw [if_pos h2, h2, Nat.sub_self]; rfl
    · rw [if_neg h2]
      obtain ⟨j, hj⟩ : ∃ j, i - k = j + 1 := ⟨i - k - 1, by omega⟩
      rw [hj, List.getElem?_cons_succ, List.getElem?_drop, show k + j = i - 1 by omega]
theorem insP_nm {ps : Peers} {k : Nat} (hk : k ≤ ps.length) (n : ByteArray) (q : Int) (i : Nat) : nm (insP ps k n q) i = if i < k then nm ps i else if i = k then n else nm ps (i - 1) := by
  unfold nm; rw [insP_get hk]; (repeat' split) <;> simp
theorem insP_pu {ps : Peers} {k : Nat} (hk : k ≤ ps.length) (n : ByteArray) (q : Int) (i : Nat) : pu (insP ps k n q) i = if i < k then pu ps i else if i = k then q else pu ps (i - 1) := by
  unfold pu; rw [insP_get hk]; (repeat' split) <;> simp
theorem insP_erase {ps : Peers} {k : Nat} (hk : k ≤ ps.length) (n : ByteArray) (q : Int) : (insP ps k n q).eraseIdx k = ps := by
  unfold insP
  rw [List.eraseIdx_append_of_length_le (by rw [List.length_take]; omega), List.length_take, Nat.min_eq_left hk, Nat.sub_self, List.eraseIdx_cons_zero, List.take_append_drop]
/-- With one more in its place, the names increase still. -/
theorem insP_inc {ps : Peers} (hi : Inc ps) {n : ByteArray} (hh : hasN ps n = false) (q : Int) : Inc (insP ps (lb ps n) n q) := by
  have hk := lb_le ps n
  intro i h0 hl
  rw [insP_len hk] at hl
  rw [insP_nm hk, insP_nm hk]
  have hge : lb ps n < ps.length → sltB n (nm ps (lb ps n)) = true := fun h => by
    refine sltB_tot (lb_ge h) ?_
    cases h2 : seqB (nm ps (lb ps n)) n
    · rfl
    · rw [hasN_iff.2 ⟨h, seqB_iff.1 h2⟩] at hh; cases hh
  by_cases h1 : i < lb ps n
  · rw [if_pos (by omega), if_pos h1]; exact hi i h0 (by omega)
  · by_cases h2 : i = lb ps n
    · rw [if_pos (by omega), if_neg h1, if_pos h2]; exact lb_lt (by omega)
    · by_cases h3 : i - 1 = lb ps n
      · rw [if_neg (by omega), if_pos h3, if_neg h1, if_neg h2, h3]; exact hge (by omega)
      · rw [if_neg (by omega), if_neg h3, if_neg h1, if_neg h2]; exact hi (i - 1) (by omega) (by omega)
theorem distB_of {K : Int} {ps : Peers} (h : ∀ i, i < ps.length → pu ps i ≠ K ∧ ∀ j, j < i → pu ps j ≠ pu ps i) : distB K ps = true :=
  distB_all fun i hi => by
    unfold dupB
    rw [Bool.or_eq_false_iff, decide_eq_false_iff_not]
    refine ⟨(h i hi).1, ?_⟩
    cases h2 : (ps.take i).any fun p => p.2 == pu ps i
    · rfl
    · obtain ⟨x, hx, he⟩ := List.any_eq_true.1 h2
      obtain ⟨j, hj, rfl⟩ := List.mem_take_iff_getElem.1 hx
      rw [ps_at (by omega), beq_iff_eq] at he
      exact absurd he ((h i hi).2 j (by omega))

theorem pi_none {ps : Peers} {q : Int} (h : ¬ pi ps q < ps.length) : ∀ j, j < ps.length → pu ps j ≠ q := fun j hj => pi_lt (by omega)
theorem insP_dist {K : Int} {ps : Peers} (hd : distB K ps = true) {k : Nat} (hk : k ≤ ps.length) (n : ByteArray) {q : Int} (hq : K ≠ q) (hn : ∀ j, j < ps.length → pu ps j ≠ q) : distB K (insP ps k n q) = true := by
  refine distB_of fun i hi => ?_
  rw [insP_len hk] at hi
  rw [insP_pu hk]
  have hinj : ∀ a b, a < ps.length → b < ps.length → a ≠ b → pu ps a ≠ pu ps b := fun a b ha hb hab => by
    rcases Nat.lt_or_gt_of_ne hab with h | h
    · exact (dist_at hd hb).2 a h
    · exact fun e => (dist_at hd ha).2 b h e.symm
  constructor
  · split
    · exact (dist_at hd (by omega)).1
    · split
      · exact fun e => hq e.symm
      · exact (dist_at hd (by omega)).1
  · intro j hj
    rw [insP_pu hk]
    by_cases i1 : i < k
    · rw [if_pos i1, if_pos (by omega)]; exact hinj _ _ (by omega) (by omega) (by omega)
    · by_cases i2 : i = k
      · rw [if_neg i1, if_pos i2, if_pos (by omega)]; exact hn j (by omega)
      · rw [if_neg i1, if_neg i2]
        by_cases j1 : j < k
        · rw [if_pos j1]; exact hinj _ _ (by omega) (by omega) (by omega)
        · by_cases j2 : j = k
          · rw [if_neg j1, if_pos j2]; exact fun e => hn (i - 1) (by omega) e.symm
          · rw [if_neg j1, if_neg j2]; exact hinj _ _ (by omega) (by omega) (by omega)
theorem insP_cv {L : Lim} {s : Int} {ps : Peers} (h : CV L s ps) {n : ByteArray} {q : Int} (hv : (okN n && isB q) = true) (hh : hasN ps n = false) (hw : ¬ whoN (pubK s) ps q < ps.length) (h8 : ps.length ≠ 8) : CV L s (insP ps (lb ps n) n q) := by
  have hk := lb_le ps n
  have hq : pubK s ≠ q := fun e => hw (by unfold whoN; rw [if_pos e]; omega)
  have hp : ¬ pi ps q < ps.length := fun e => hw (by unfold whoN; rw [if_neg hq]; omega)
  refine ⟨h.fit, h.s1, h.s5, by rw [insP_len hk]; have := h.len; omega, ?_, insP_inc h.inc hh q, insP_dist h.dist hk n hq (pi_none hp)⟩
  have h1 : ∀ p ∈ ps, vP p = true := fun p hp => by
    cases h2 : vP p
    · have : (ps.any fun p => !vP p) = true := List.any_eq_true.2 ⟨p, hp, by rw [h2]; rfl⟩
      rw [h.ok] at this; cases this
    · rfl
  cases h3 : (insP ps (lb ps n) n q).any fun p => !vP p
  · rfl
  · obtain ⟨p, hp, he⟩ := List.any_eq_true.1 h3
    unfold insP at hp
    rcases List.mem_append.1 hp with hp | hp
    · rw [h1 p (List.mem_of_mem_take hp)] at he; cases he
    · rcases List.mem_cons.1 hp with rfl | hp
      · unfold vP at he; simp only at he; rw [hv] at he; cases he
      · rw [h1 p (List.mem_of_mem_drop hp)] at he; cases he
/-- What With returns of a valid setup: it is refused, or one more is in its place. -/
theorem with_cases {L : Lim} {s : Int} {ps : Peers} (h : CV L s ps) (n : ByteArray) (q : Int) :
    (∃ e, withR L s ps n q 0 = zOut e ∧ (e = 8 ∨ e = 14 ∨ e = 18 ∧ ps.length = 8)) ∨ (withR L s ps n q 0 = ⟨L, s, insP ps (lb ps n) n q, 0⟩ ∧ CV L s (insP ps (lb ps n) n q) ∧ hasN ps n = false) := by
  unfold withR
  rw [if_pos rfl]
  cases hv : (okN n && isB q)
  · exact .inl ⟨8, rfl, .inl rfl⟩
  · cases hh : hasN ps n
    · by_cases hw : whoN (pubK s) ps q < ps.length
      · left; exact ⟨14, by rw [if_pos rfl, if_neg (by decide), if_pos hw], .inr (.inl rfl)⟩
      · by_cases h8 : ps.length = 8
        · left; exact ⟨18, by rw [if_pos rfl, if_neg (by decide), if_neg hw, if_pos h8], .inr (.inr ⟨rfl, h8⟩)⟩
        · right; exact ⟨by rw [if_pos rfl, if_neg (by decide), if_neg hw, if_neg h8]; rfl, insP_cv h hv hh hw h8, rfl⟩
    · left; exact ⟨14, by simp, .inr (.inl rfl)⟩
/-- In what With gave: the one that was put in. -/
theorem put_at {ps : Peers} (n : ByteArray) (q : Int) : lb ps n < (insP ps (lb ps n) n q).length ∧ nm (insP ps (lb ps n) n q) (lb ps n) = n ∧ pu (insP ps (lb ps n) n q) (lb ps n) = q := by
  have hk := lb_le ps n
  refine ⟨by rw [insP_len hk]; omega, ?_, ?_⟩
  · rw [insP_nm hk, if_neg (by omega), if_pos rfl]
  · rw [insP_pu hk, if_neg (by omega), if_pos rfl]
/-- .. and those that were there. -/
theorem old_at {ps : Peers} (n : ByteArray) (q : Int) {i : Nat} (hi : i < ps.length) : ∃ j, j < (insP ps (lb ps n) n q).length ∧ nm (insP ps (lb ps n) n q) j = nm ps i ∧ pu (insP ps (lb ps n) n q) j = pu ps i := by
  have hk := lb_le ps n
  by_cases h : i < lb ps n
  · exact ⟨i, by rw [insP_len hk]; omega, by rw [insP_nm hk, if_pos h], by rw [insP_pu hk, if_pos h]⟩
  · exact ⟨i + 1, by rw [insP_len hk]; omega, by rw [insP_nm hk, if_neg (by omega), if_neg (by omega)]; rfl, by rw [insP_pu hk, if_neg (by omega), if_neg (by omega)]; rfl⟩
theorem find_put {L : Lim} {s : Int} {ps : Peers} {n : ByteArray} {q : Int} (h : CV L s (insP ps (lb ps n) n q)) : findR 0 (insP ps (lb ps n) n q) n = (q, 0) := by
  obtain ⟨h1, h2, h3⟩ := put_at (ps := ps) n q
  have := find_at h.inc h1
  rwa [h2, h3] at this
theorem find_old {L : Lim} {s : Int} {ps : Peers} {n : ByteArray} {q : Int} (h : CV L s (insP ps (lb ps n) n q)) {i : Nat} (hi : i < ps.length) : findR 0 (insP ps (lb ps n) n q) (nm ps i) = (pu ps i, 0) := by
  obtain ⟨j, h1, h2, h3⟩ := old_at (ps := ps) n q hi
  have := find_at h.inc h1
  rwa [h2, h3] at this
theorem who_put {L : Lim} {s : Int} {ps : Peers} {n : ByteArray} {q : Int} (h : CV L s (insP ps (lb ps n) n q)) : whoR (pubK s) 0 (insP ps (lb ps n) n q) q = (n, 0) := by
  obtain ⟨h1, h2, h3⟩ := put_at (ps := ps) n q
  have := who_at h.dist h1
  rwa [h2, h3] at this
theorem without_put {L : Lim} {s : Int} {ps : Peers} {n : ByteArray} {q : Int} (h : CV L s (insP ps (lb ps n) n q)) : withoutR L s (insP ps (lb ps n) n q) n 0 = ⟨L, s, ps, 0⟩ := by
  obtain ⟨h1, h2, h3⟩ := put_at (ps := ps) n q
  have e1 := lb_at h.inc h1
  have e2 := has_at h.inc h1
  rw [h2] at e1 e2
  unfold withoutR
  rw [if_pos rfl, e2, e1, insP_erase (lb_le ps n)]
  rfl

end Go.Proofs.YthdldmkeoglflaaDoor

/- Contracts for the law ConfigNames: limited, form. -/
namespace Go.Proofs.YthdldmkeoglflaaDoor
set_option linter.unusedSimpArgs false
set_option linter.unusedVariables false
set_option linter.unnecessarySimpa false
open Go.RowKit

theorem chk_lim (L : Lim) : chkS L 5 [] = if fitB L then 0 else 2 := by
  cases h : fitB L
  · rw [chk_fit h]; rfl
  · rw [chk_ok h (by decide) (by decide) (by decide) (by decide) (by decide)]; rfl
theorem ca_nil (w : World) (a : Option Addr) : CellsAt w a (cel []) := .inl rfl
theorem SIn.none (w : World) : SIn w 5 [] none := ⟨by decide, by decide, .inl rfl, fun i hi => absurd hi (Nat.not_lt_zero _), Nat.zero_le _⟩
set_option maxHeartbeats 2000000 in
theorem limited_any (l0 l1 l2 l3 l4 l5 l6 l7 l8 : Int) (w : World) :
    Calls Tryd.prog 16 #[.agg #[.int .i64 l0, .int .i64 l1, .int .i64 l2, .int .i64 l3, .int .i64 l4, .int .i64 l5, .int .i64 l6, .int .i64 l7, .int .i64 l8]] w fun e w' =>
      e = .returned (.bool (fitB (⟨l0, l1, l2, l3, l4, l5, l6, l7, l8⟩ : Lim))) ∧ Below w.heap.size w w' := by
  have hchk := fun W => Check_any l0 l1 l2 l3 l4 l5 l6 l7 l8 5 [] none 0 W (.inl rfl) (by decide) (by decide) (SIn.none w).keys (by decide)
  obtain ⟨B, hB⟩ : ∃ B, fitB (⟨l0, l1, l2, l3, l4, l5, l6, l7, l8⟩ : Lim) = B := ⟨_, rfl⟩
  simp only [chk_lim, hB, List.length_nil] at hchk
  rw [hB]
  cases B with
  | true =>
    have H_hB := Box.mk hB
    clear hB
    go_enter Tryd.func16, Tryd.ntmps16
    have hb0 := Below.refl w.heap.size w
    go_wp2_with fail
    with_reducible refine (given_any none 0 0 _).mono ?_
    rintro e w1 ⟨rfl, hc1⟩
    have hb1 : Below w.heap.size w w1 := bchain (by repeat' (first | with_reducible exact hb0 | with_reducible refine Below.drew ?_ | with_reducible refine below_drewN ?_ _ | with_reducible refine Below.alloc ?_ (by have := hb0.size; first | (simp; done) | (simp; omega) | omega) _ | with_reducible refine Below.setCell ?_ (by first | (simp; done) | (simp; omega) | omega) _)) hc1
    have X_0 : w1.cell? ⟨w.heap.size, 0, none⟩ = some (.int .i64 l0) := (hc1.cell (p := ⟨w.heap.size, 0, none⟩) (by first | (simp; done) | (simp; omega))).trans (by first | (simp; done) | go_simp)
    have X_1 : w1.cell? ⟨w.heap.size, 1, none⟩ = some (.int .i64 l1) := (hc1.cell (p := ⟨w.heap.size, 1, none⟩) (by first | (simp; done) | (simp; omega))).trans (by first | (simp; done) | go_simp)
    have X_2 : w1.cell? ⟨w.heap.size, 2, none⟩ = some (.int .i64 l2) := (hc1.cell (p := ⟨w.heap.size, 2, none⟩) (by first | (simp; done) | (simp; omega))).trans (by first | (simp; done) | go_simp)
    have X_3 : w1.cell? ⟨w.heap.size, 3, none⟩ = some (.int .i64 l3) := (hc1.cell (p := ⟨w.heap.size, 3, none⟩) (by first | (simp; done) | (simp; omega))).trans (by first | (simp; done) | go_simp)
    have X_4 : w1.cell? ⟨w.heap.size, 4, none⟩ = some (.int .i64 l4) := (hc1.cell (p := ⟨w.heap.size, 4, none⟩) (by first | (simp; done) | (simp; omega))).trans (by first | (simp; done) | go_simp)
    have X_5 : w1.cell? ⟨w.heap.size, 5, none⟩ = some (.int .i64 l5) := (hc1.cell (p := ⟨w.heap.size, 5, none⟩) (by first | (simp; done) | (simp; omega))).trans (by first | (simp; done) | go_simp)
    have X_6 : w1.cell? ⟨w.heap.size, 6, none⟩ = some (.int .i64 l6) := (hc1.cell (p := ⟨w.heap.size, 6, none⟩) (by first | (simp; done) | (simp; omega))).trans (by first | (simp; done) | go_simp)
    have X_7 : w1.cell? ⟨w.heap.size, 7, none⟩ = some (.int .i64 l7) := (hc1.cell (p := ⟨w.heap.size, 7, none⟩) (by first | (simp; done) | (simp; omega))).trans (by first | (simp; done) | go_simp)
    have X_8 : w1.cell? ⟨w.heap.size, 8, none⟩ = some (.int .i64 l8) := (hc1.cell (p := ⟨w.heap.size, 8, none⟩) (by first | (simp; done) | (simp; omega))).trans (by first | (simp; done) | go_simp)
    have X_l : w.heap.size < w1.heap.size := Nat.lt_of_lt_of_le (by first | (simp; done) | (simp; omega)) hc1.size
    clear hc1 hb0
    go_wp2_with fail
    with_reducible refine (hchk _).mono ?_
    rintro e w2 ⟨rfl, hc2⟩
    have hb2 : Below w.heap.size w w2 := bchain (by repeat' (first | with_reducible exact hb1 | with_reducible refine Below.drew ?_ | with_reducible refine below_drewN ?_ _ | with_reducible refine Below.alloc ?_ (by have := hb1.size; first | (simp; done) | (simp; omega) | omega) _ | with_reducible refine Below.setCell ?_ (by first | (simp; done) | (simp; omega) | omega) _)) hc2
    have hst2 : Below w1.heap.size w1 w2 := bchain (by repeat' (first | with_reducible exact Below.refl _ _ | with_reducible refine Below.drew ?_ | with_reducible refine below_drewN ?_ _ | with_reducible refine Below.alloc ?_ (by first | (simp; done) | (simp; omega) | omega) _ | with_reducible refine Below.setCell ?_ (by first | (simp; done) | (simp; omega) | omega) _)) hc2
    replace X_0 := cell_later hst2 X_0
    replace X_1 := cell_later hst2 X_1
    replace X_2 := cell_later hst2 X_2
    replace X_3 := cell_later hst2 X_3
    replace X_4 := cell_later hst2 X_4
    replace X_5 := cell_later hst2 X_5
    replace X_6 := cell_later hst2 X_6
    replace X_7 := cell_later hst2 X_7
    replace X_8 := cell_later hst2 X_8
    replace X_l := Nat.lt_of_lt_of_le X_l hst2.size
    clear hst2
    clear hc2 hb1
    go_wp2_with fail
    go_ret
    exact ⟨rfl, (by repeat' (first | with_reducible exact hb2 | with_reducible refine Below.drew ?_ | with_reducible refine below_drewN ?_ _ | with_reducible refine Below.alloc ?_ (by have := hb2.size; first | (simp; done) | (simp; omega) | omega) _ | with_reducible refine Below.setCell ?_ (by first | (simp; done) | (simp; omega) | omega) _))⟩
  | false =>
    have H_hB := Box.mk hB
    clear hB
    go_enter Tryd.func16, Tryd.ntmps16
    have hb0 := Below.refl w.heap.size w
    go_wp2_with fail
    with_reducible refine (given_any none 0 0 _).mono ?_
    rintro e w1 ⟨rfl, hc1⟩
    have hb1 : Below w.heap.size w w1 := bchain (by repeat' (first | with_reducible exact hb0 | with_reducible refine Below.drew ?_ | with_reducible refine below_drewN ?_ _ | with_reducible refine Below.alloc ?_ (by have := hb0.size; first | (simp; done) | (simp; omega) | omega) _ | with_reducible refine Below.setCell ?_ (by first | (simp; done) | (simp; omega) | omega) _)) hc1
    have X_0 : w1.cell? ⟨w.heap.size, 0, none⟩ = some (.int .i64 l0) := (hc1.cell (p := ⟨w.heap.size, 0, none⟩) (by first | (simp; done) | (simp; omega))).trans (by first | (simp; done) | go_simp)
    have X_1 : w1.cell? ⟨w.heap.size, 1, none⟩ = some (.int .i64 l1) := (hc1.cell (p := ⟨w.heap.size, 1, none⟩) (by first | (simp; done) | (simp; omega))).trans (by first | (simp; done) | go_simp)
    have X_2 : w1.cell? ⟨w.heap.size, 2, none⟩ = some (.int .i64 l2) := (hc1.cell (p := ⟨w.heap.size, 2, none⟩) (by first | (simp; done) | (simp; omega))).trans (by first | (simp; done) | go_simp)
    have X_3 : w1.cell? ⟨w.heap.size, 3, none⟩ = some (.int .i64 l3) := (hc1.cell (p := ⟨w.heap.size, 3, none⟩) (by first | (simp; done) | (simp; omega))).trans (by first | (simp; done) | go_simp)
    have X_4 : w1.cell? ⟨w.heap.size, 4, none⟩ = some (.int .i64 l4) := (hc1.cell (p := ⟨w.heap.size, 4, none⟩) (by first | (simp; done) | (simp; omega))).trans (by first | (simp; done) | go_simp)
    have X_5 : w1.cell? ⟨w.heap.size, 5, none⟩ = some (.int .i64 l5) := (hc1.cell (p := ⟨w.heap.size, 5, none⟩) (by first | (simp; done) | (simp; omega))).trans (by first | (simp; done) | go_simp)
    have X_6 : w1.cell? ⟨w.heap.size, 6, none⟩ = some (.int .i64 l6) := (hc1.cell (p := ⟨w.heap.size, 6, none⟩) (by first | (simp; done) | (simp; omega))).trans (by first | (simp; done) | go_simp)
    have X_7 : w1.cell? ⟨w.heap.size, 7, none⟩ = some (.int .i64 l7) := (hc1.cell (p := ⟨w.heap.size, 7, none⟩) (by first | (simp; done) | (simp; omega))).trans (by first | (simp; done) | go_simp)
    have X_8 : w1.cell? ⟨w.heap.size, 8, none⟩ = some (.int .i64 l8) := (hc1.cell (p := ⟨w.heap.size, 8, none⟩) (by first | (simp; done) | (simp; omega))).trans (by first | (simp; done) | go_simp)
    have X_l : w.heap.size < w1.heap.size := Nat.lt_of_lt_of_le (by first | (simp; done) | (simp; omega)) hc1.size
    clear hc1 hb0
    go_wp2_with fail
    with_reducible refine (hchk _).mono ?_
    rintro e w2 ⟨rfl, hc2⟩
    have hb2 : Below w.heap.size w w2 := bchain (by repeat' (first | with_reducible exact hb1 | with_reducible refine Below.drew ?_ | with_reducible refine below_drewN ?_ _ | with_reducible refine Below.alloc ?_ (by have := hb1.size; first | (simp; done) | (simp; omega) | omega) _ | with_reducible refine Below.setCell ?_ (by first | (simp; done) | (simp; omega) | omega) _)) hc2
    have hst2 : Below w1.heap.size w1 w2 := bchain (by repeat' (first | with_reducible exact Below.refl _ _ | with_reducible refine Below.drew ?_ | with_reducible refine below_drewN ?_ _ | with_reducible refine Below.alloc ?_ (by first | (simp; done) | (simp; omega) | omega) _ | with_reducible refine Below.setCell ?_ (by first | (simp; done) | (simp; omega) | omega) _)) hc2
    replace X_0 := cell_later hst2 X_0
    replace X_1 := cell_later hst2 X_1
    replace X_2 := cell_later hst2 X_2
    replace X_3 := cell_later hst2 X_3
    replace X_4 := cell_later hst2 X_4
    replace X_5 := cell_later hst2 X_5
    replace X_6 := cell_later hst2 X_6
    replace X_7 := cell_later hst2 X_7
    replace X_8 := cell_later hst2 X_8
    replace X_l := Nat.lt_of_lt_of_le X_l hst2.size
    clear hst2
    clear hc2 hb1
    go_wp2_with fail
    go_ret
    exact ⟨rfl, (by repeat' (first | with_reducible exact hb2 | with_reducible refine Below.drew ?_ | with_reducible refine below_drewN ?_ _ | with_reducible refine Below.alloc ?_ (by have := hb2.size; first | (simp; done) | (simp; omega) | omega) _ | with_reducible refine Below.setCell ?_ (by first | (simp; done) | (simp; omega) | omega) _))⟩
set_option maxHeartbeats 2000000 in
theorem form_any (b : ByteArray) (w : World) (hb : b.size ≤ 100000) (hE : ErrIn w) (htab : ∀ W, Below w.heap.size w W → Lib.TabIs Tryd.prog W "internal/strconv.uint64pow10" .u64 Lib.pow10Tab) :
    Calls Tryd.prog 17 #[.string b] w fun e w' =>
      e = .returned (.bool ((pzR b).err == 12)) ∧ Below w.heap.size w w' := by
  have hcall := Parse_any b w hb hE htab
  rcases pz_err b with h | ⟨h, _⟩ | ⟨h, _⟩
  · obtain ⟨P, hP⟩ : ∃ P, pzR b = P := ⟨_, rfl⟩
    rw [hP] at h hcall ⊢
    obtain ⟨⟨m0, m1, m2, m3, m4, m5, m6, m7, m8⟩, ms, mq, me⟩ := P
    simp only at h
    subst h
    unfold RetS at hcall
    simp only at hcall
    have hr : ((⟨⟨m0, m1, m2, m3, m4, m5, m6, m7, m8⟩, ms, mq, 0⟩ : SOut).err == 12) = false := rfl
    rw [hr]
    have H_hP := Box.mk hP
    clear hP
    go_enter Tryd.func17, Tryd.ntmps17
    have hb0 := Below.refl w.heap.size w
    go_wp2_with fail
    with_reducible refine (hcall).mono ?_
    rintro e w1 ⟨⟨a1, c1, rfl, k1⟩, hc1⟩
    have hb1 : Below w.heap.size w w1 := bchain (by repeat' (first | with_reducible exact hb0 | with_reducible refine Below.drew ?_ | with_reducible refine below_drewN ?_ _ | with_reducible refine Below.alloc ?_ (by have := hb0.size; first | (simp; done) | (simp; omega) | omega) _ | with_reducible refine Below.setCell ?_ (by first | (simp; done) | (simp; omega) | omega) _)) hc1
    clear hc1 hb0
    go_wp2_with fail
    go_ret
    exact ⟨rfl, (by repeat' (first | with_reducible exact hb1 | with_reducible refine Below.drew ?_ | with_reducible refine below_drewN ?_ _ | with_reducible refine Below.alloc ?_ (by have := hb1.size; first | (simp; done) | (simp; omega) | omega) _ | with_reducible refine Below.setCell ?_ (by first | (simp; done) | (simp; omega) | omega) _))⟩
  · rw [h] at hcall ⊢
    have hr : ((zOut 12).err == 12) = true := rfl
    rw [hr]
    unfold RetS zOut at hcall
    simp only [List.length_nil] at hcall
    go_enter Tryd.func17, Tryd.ntmps17
    have hb0 := Below.refl w.heap.size w
    go_wp2_with fail
    with_reducible refine (hcall).mono ?_
    rintro e w1 ⟨⟨a1, c1, rfl, k1⟩, hc1⟩
    have hb1 : Below w.heap.size w w1 := bchain (by repeat' (first | with_reducible exact hb0 | with_reducible refine Below.drew ?_ | with_reducible refine below_drewN ?_ _ | with_reducible refine Below.alloc ?_ (by have := hb0.size; first | (simp; done) | (simp; omega) | omega) _ | with_reducible refine Below.setCell ?_ (by first | (simp; done) | (simp; omega) | omega) _)) hc1
    clear hc1 hb0
    go_wp2_with fail
    with_reducible refine (same_any 0 0 0 0 0 0 0 0 0 0 [] a1 none c1 0 0 _ rfl (ca_nil _ _) (ca_nil _ _) (by decide)).mono ?_
    rintro e w2 ⟨rfl, hc2⟩
    have hb2 : Below w.heap.size w w2 := bchain (by repeat' (first | with_reducible exact hb1 | with_reducible refine Below.drew ?_ | with_reducible refine below_drewN ?_ _ | with_reducible refine Below.alloc ?_ (by have := hb1.size; first | (simp; done) | (simp; omega) | omega) _ | with_reducible refine Below.setCell ?_ (by first | (simp; done) | (simp; omega) | omega) _)) hc2
    clear hc2 hb1
    go_wp2_with fail
    go_ret
    exact ⟨rfl, (by repeat' (first | with_reducible exact hb2 | with_reducible refine Below.drew ?_ | with_reducible refine below_drewN ?_ _ | with_reducible refine Below.alloc ?_ (by have := hb2.size; first | (simp; done) | (simp; omega) | omega) _ | with_reducible refine Below.setCell ?_ (by first | (simp; done) | (simp; omega) | omega) _))⟩
  · rw [h] at hcall ⊢
    have hr : ((zOut 4).err == 12) = false := rfl
    rw [hr]
    unfold RetS zOut at hcall
    simp only [List.length_nil] at hcall
    go_enter Tryd.func17, Tryd.ntmps17
    have hb0 := Below.refl w.heap.size w
    go_wp2_with fail
    with_reducible refine (hcall).mono ?_
    rintro e w1 ⟨⟨a1, c1, rfl, k1⟩, hc1⟩
    have hb1 : Below w.heap.size w w1 := bchain (by repeat' (first | with_reducible exact hb0 | with_reducible refine Below.drew ?_ | with_reducible refine below_drewN ?_ _ | with_reducible refine Below.alloc ?_ (by have := hb0.size; first | (simp; done) | (simp; omega) | omega) _ | with_reducible refine Below.setCell ?_ (by first | (simp; done) | (simp; omega) | omega) _)) hc1
    clear hc1 hb0
    go_wp2_with fail
    go_ret
    exact ⟨rfl, (by repeat' (first | with_reducible exact hb1 | with_reducible refine Below.drew ?_ | with_reducible refine below_drewN ?_ _ | with_reducible refine Below.alloc ?_ (by have := hb1.size; first | (simp; done) | (simp; omega) | omega) _ | with_reducible refine Below.setCell ?_ (by first | (simp; done) | (simp; omega) | omega) _))⟩
end Go.Proofs.YthdldmkeoglflaaDoor

/- The law ConfigNames: what its parts share. -/
namespace Go.Proofs.YthdldmkeoglflaaDoor
set_option linter.unusedSimpArgs false
set_option linter.unusedVariables false
set_option linter.unnecessarySimpa false
open Go.RowKit
set_option linter.unusedVariables false


/-- The chapter's setup, with some peers, at a block. -/
structure GAt (w : World) (B : Nat) (ps : Peers) (a : Option Addr) (c : Nat) : Prop where
  cells : CellsAt w (some ⟨B, 0, none⟩) [.int .i64 2, .int .i64 2, .int .i64 2, .int .i64 2, .int .i64 2, .int .i64 2, .int .i64 2, .int .i64 2, .int .i64 2, .int .u32 5, .slice a ps.length c]
  peers : CellsAt w a (cel ps)
theorem GAt.later {w w' : World} {B c : Nat} {ps : Peers} {a : Option Addr} (h : GAt w B ps a c) (hb : Below w.heap.size w w') : GAt w' B ps a c := ⟨h.cells.later hb, h.peers.later hb⟩
theorem GAt.at {w : World} {B c : Nat} {ps : Peers} {a : Option Addr} (h : GAt w B ps a c) {j : Nat} {v : Value} (hj : ([.int .i64 2, .int .i64 2, .int .i64 2, .int .i64 2, .int .i64 2, .int .i64 2, .int .i64 2, .int .i64 2, .int .i64 2, .int .u32 5, .slice a ps.length c] : List Value)[j]? = some v) : w.cell? ⟨B, j, none⟩ = some v := cells11_at h.cells hj
theorem GAt.lt {w : World} {B c : Nat} {ps : Peers} {a : Option Addr} (h : GAt w B ps a c) : B < w.heap.size := World.block_lt_of_cell? _ _ (h.at (j := 0) rfl)
/-- Small peers. -/
structure PsOk (ps : Peers) : Prop where
  keys : Keys ps
  len : ps.length ≤ 100
theorem GAt.sin {w : World} {B c : Nat} {ps : Peers} {a : Option Addr} (h : GAt w B ps a c) (hp : PsOk ps) : SIn w 5 ps a := ⟨by decide, by decide, h.peers, hp.keys, by have := hp.len; omega⟩
theorem PsOk.of {ps : Peers} (h : (ps.all fun p => decide (0 ≤ p.2) && decide (p.2 < 4294967296)) = true) (hl : ps.length ≤ 100) : PsOk ps := ⟨fun i hi => by
  have := List.all_eq_true.1 h _ (ps_mem hi)
  simpa using this, hl⟩
def cutAt : Code → Nat → Code × Code
  | .seq (.region i ops d) b, n => if i = n then (.region i ops d, b) else cutAt b n
  | .seq _ b, n => cutAt b n
  | c, _ => (c, .skip)
theorem glue {P : Program} {Q : Exit → Act → World → Prop} {c rest : Code} {K : Act → World → Prop} {a : Act} {w : World} (hK : ∀ a w, Code.wp P rest Q a w → K a w) (h : Code.wp P c (Exit.then (Code.wp P rest Q) Q) a w) : Code.wp P c (Exit.then K Q) a w :=
  Code.wp_mono (fun e a w h => by cases e <;> first | exact hK _ _ h | exact h) h
theorem wp_facts' {P : Program} {c : Code} {Q : Exit → Act → World → Prop} {a : Act} {w : World} (Φ : World → Prop) (h : Φ w) (k : ∀ w', Φ w' → Code.wp P c Q a w') : Code.wp P c Q a w := k w h
/-- The law's end. -/
def NmQ (w : World) : Exit → Act → World → Prop := bodyPost Tryd.prog (Tryd.f4) fun e w' => e = .returned (.bool true) ∧ Below w.heap.size w w'
/-- Part n: the walk from region n on. -/
def Part (w : World) (n : Nat) (a : Act) (w' : World) : Prop := Code.wp Tryd.prog (cutAt ((Tryd.f4).body.getD .skip) n).1 (Exit.then (Code.wp Tryd.prog (cutAt ((Tryd.f4).body.getD .skip) n).2 (NmQ w)) (NmQ w)) a w'
end Go.Proofs.YthdldmkeoglflaaDoor

/- ConfigNames: the calls of regions 42 to 53. -/
namespace Go.Proofs.YthdldmkeoglflaaDoor
set_option linter.unusedSimpArgs false
set_option linter.unusedVariables false
set_option linter.unnecessarySimpa false
open Go.RowKit
set_option linter.unusedVariables false


theorem Calls_gen2 {P : Program} {f : FuncId} {args : Array Value} {w : World} {Q : Ending → World → Prop} (h : ∀ w', Below w.heap.size w w' → Calls P f args w' Q) : Calls P f args w Q := h w (Below.refl _ _)
theorem info_u8x : (Tryd.prog.info? 5).map (fun i => (i.zero, i.size, i.bytes)) = some (some (.int .u8 0), 1, 1) := by kernel_rfl
theorem madeN_one (z : Value) (n : Nat) : madeCells #[z] n = (List.replicate n z).toArray := by
  apply Array.ext
  · simp [madeCells]
  · intro i h1 h2
    simp [madeCells, Nat.mod_one]
theorem wpList_makeN {P : Program} {ops : Array Oper} {rest : List Oper} {o : Oper} {a : Act} {w : World} {Q : Exit → Act → World → Prop} (hgd : o.guard = none) (t : TypeId) (x y : Operand) (ho : o.op = .makeSlice t x y) (n : Nat) (hx : a.eval x = .int .i64 n) (hy : a.eval y = .int .i64 n)
    (e : TypeId) (i : TypeInfo) (z : Value) (ht : P.underlying t = some (.slice e)) (hi : P.info? e = some i) (hz : i.zero = some z) (hs : i.size = 1) (hb : i.bytes * n ≤ 281474976710656) (hc : n ≤ 9223372036854775807) (hzc : z.cells = #[z])
    (hK : ∀ b w', Below w.heap.size w w' → CellsAt w' (some ⟨b, 0, none⟩) (List.replicate n z) → wpList P ops Q rest (a.put o.dst (.slice (some ⟨b, 0, none⟩) n n)) w') : wpList P ops Q (o :: rest) a w := by
  have hb' : (i.bytes : Int) * (n : Int) ≤ 281474976710656 := by
    have h : ((i.bytes * n : Nat) : Int) ≤ 281474976710656 := by omega
    rwa [Int.natCast_mul] at h
  have hr := run_make (P := P) w t e i z ht hi hz .i64 .i64 n n (by omega) (by omega) hb' (by omega)
  simp only [Int.toNat_natCast] at hr
  rw [hs, Nat.mul_one, hzc, madeN_one] at hr
  refine wpList_plain hgd fun K hK' => ?_
  unfold Oper.wp
  simp only [execOp, ho, hx, hy, Sem.run_bind, hr, Result.andThen_ok, Sem.run_pure]
  exact hK' _ _ (hK w.heap.size _ ((Below.refl _ _).alloc (Nat.le_refl _) _) (Blk.newA w _ _ e _ rfl rfl).cellsAt2)
theorem conv_zeros (W : World) (b n : Nat) (h : CellsAt W (some ⟨b, 0, none⟩) (List.replicate n (Value.int .u8 0))) : (convert 43 9 (.slice (some ⟨b, 0, none⟩) n n)).run Tryd.prog W = .ok (.string ⟨(List.replicate n (0 : UInt8)).toArray⟩) W := by
  have e := run_convert_bytes_back (P := Tryd.prog) W 43 9 5 ⟨b, 0, none⟩ n (List.replicate n (0 : UInt8)) Tryd.underlying43 Tryd.underlying5 Tryd.underlying9 fun j hj => by
    rw [List.length_replicate] at hj
    rw [List.getElem_replicate]
    rcases h with h | ⟨b', o, e', h⟩
    · have := congrArg List.length h
      rw [List.length_replicate, List.length_nil] at this
      omega
    · cases e'
      have := h j (.int .u8 0) (by rw [List.getElem?_replicate, if_pos hj])
      rw [Nat.zero_add] at this
      by_cases h0 : j = 0
      · subst h0; simpa [Addr.add] using this
      · simpa [Addr.add, h0] using this
  rw [List.length_replicate] at e
  exact e
def pB : Peers := [(⟨#[98]⟩, 16)]
def pAB : Peers := [(⟨#[97]⟩, 4), (⟨#[98]⟩, 16)]
def L2x : Lim := ⟨2, 2, 2, 2, 2, 2, 2, 2, 2⟩
theorem pB_chk : chkS L2x 5 pB = 0 := chk_1
theorem pB_ok : PsOk pB := PsOk.of (by decide +kernel) (by decide)
theorem pAB_ok : PsOk pAB := PsOk.of (by decide +kernel) (by decide)
theorem is_0 : isB 0 = false := by simp [isB]
theorem is_4x : isB 4 = true := isC 4 (by omega) (by omega) true (by decide +kernel)
theorem is_16x : isB 16 = true := isC 16 (by omega) (by omega) true (by decide +kernel)
theorem is_1024x : isB 1024 = true := isC 1024 (by omega) (by omega) true (by decide +kernel)
theorem find_xa : findR 0 pB ⟨#[97]⟩ = (0, 6) := by decide +kernel
theorem who_x4 : whoR (pubK 5) 0 pB 4 = (⟨#[]⟩, 6) := by rw [pub_5]; decide +kernel
theorem who_xo : whoR (pubK 5) 0 pB 1024 = (⟨#[]⟩, 0) := by rw [pub_5]; decide +kernel
theorem with_c0 : withR L2x 5 pB ⟨#[99]⟩ 0 0 = zOut 8 := by
  unfold withR; rw [if_pos rfl, is_0, Bool.and_false, if_neg (by decide)]
theorem with_b4 : withR L2x 5 pB ⟨#[98]⟩ 4 0 = zOut 14 := by
  have h : hasN pB ⟨#[98]⟩ = true := by decide +kernel
  have ho : okN ⟨#[98]⟩ = true := by decide +kernel
  unfold withR; rw [if_pos rfl, is_4x, ho, if_pos (by rfl), h, if_pos rfl]
theorem with_c16 : withR L2x 5 pB ⟨#[99]⟩ 16 0 = zOut 14 := by
  have h : hasN pB ⟨#[99]⟩ = false := by decide +kernel
  have ho : okN ⟨#[99]⟩ = true := by decide +kernel
  have hw : whoN (pubK 5) pB 16 < pB.length := by rw [pub_5]; decide +kernel
  unfold withR; rw [if_pos rfl, is_16x, ho, if_pos (by rfl), h, if_neg (by decide), if_pos hw]
theorem with_cO : withR L2x 5 pB ⟨#[99]⟩ 1024 0 = zOut 14 := by
  have h : hasN pB ⟨#[99]⟩ = false := by decide +kernel
  have ho : okN ⟨#[99]⟩ = true := by decide +kernel
  have hw : whoN (pubK 5) pB 1024 < pB.length := by rw [pub_5]; decide +kernel
  unfold withR; rw [if_pos rfl, is_1024x, ho, if_pos (by rfl), h, if_neg (by decide), if_pos hw]
theorem with_a4 : withR L2x 5 pB ⟨#[97]⟩ 4 0 = ⟨L2x, 5, pAB, 0⟩ := by
  have h : hasN pB ⟨#[97]⟩ = false := by decide +kernel
  have ho : okN ⟨#[97]⟩ = true := by decide +kernel
  have hw : ¬ whoN (pubK 5) pB 4 < pB.length := by rw [pub_5]; decide +kernel
  have hb : lb pB ⟨#[97]⟩ = 0 := by decide +kernel
  unfold withR; rw [if_pos rfl, is_4x, ho, if_pos (by rfl), h, if_neg (by decide), if_neg hw, if_neg (by decide), hb]; rfl
theorem without_c : withoutR L2x 5 pB ⟨#[99]⟩ 0 = zOut 6 := by
  have h : hasN pB ⟨#[99]⟩ = false := by decide +kernel
  unfold withoutR; rw [if_pos rfl, h, if_neg (by decide)]
theorem without_b : withoutR L2x 5 pB ⟨#[98]⟩ 0 = ⟨L2x, 5, [], 0⟩ := by
  have h : hasN pB ⟨#[98]⟩ = true := by decide +kernel
  have hb : lb pB ⟨#[98]⟩ = 0 := by decide +kernel
  unfold withoutR; rw [if_pos rfl, h, if_pos rfl, hb]; rfl
theorem xfind (a : Option Addr) (c : Nat) (w : World) (hS : SIn w 5 pB a) :
    Calls Tryd.prog 19 #[.agg #[.int .i64 2, .int .i64 2, .int .i64 2, .int .i64 2, .int .i64 2, .int .i64 2, .int .i64 2, .int .i64 2, .int .i64 2, .int .u32 5, .slice a 1 c], .string ⟨#[97]⟩] w fun e w' =>
      (e = .returned (.tuple #[.int .u32 0, .int .i64 6])) ∧ Below w.heap.size w w' := by
  refine (Find_any 2 2 2 2 2 2 2 2 2 5 ⟨#[97]⟩ pB a c w hS 0 pB_chk).mono ?_
  rintro e w' ⟨h, hb⟩
  exact ⟨RetUI.of h find_xa, hb⟩
theorem xwho4 (a : Option Addr) (c : Nat) (w : World) (hS : SIn w 5 pB a) :
    Calls Tryd.prog 20 #[.agg #[.int .i64 2, .int .i64 2, .int .i64 2, .int .i64 2, .int .i64 2, .int .i64 2, .int .i64 2, .int .i64 2, .int .i64 2, .int .u32 5, .slice a 1 c], .int .u32 4] w fun e w' =>
      (e = .returned (.tuple #[.string ⟨#[]⟩, .int .i64 6])) ∧ Below w.heap.size w w' := by
  refine (Who_any 2 2 2 2 2 2 2 2 2 5 4 pB a c w hS 0 pB_chk).mono ?_
  rintro e w' ⟨h, hb⟩
  rw [who_x4] at h
  exact ⟨h, hb⟩
theorem xwhoO (a : Option Addr) (c : Nat) (w : World) (hS : SIn w 5 pB a) :
    Calls Tryd.prog 20 #[.agg #[.int .i64 2, .int .i64 2, .int .i64 2, .int .i64 2, .int .i64 2, .int .i64 2, .int .i64 2, .int .i64 2, .int .i64 2, .int .u32 5, .slice a 1 c], .int .u32 1024] w fun e w' =>
      (e = .returned (.tuple #[.string ⟨#[]⟩, .int .i64 0])) ∧ Below w.heap.size w w' := by
  refine (Who_any 2 2 2 2 2 2 2 2 2 5 1024 pB a c w hS 0 pB_chk).mono ?_
  rintro e w' ⟨h, hb⟩
  rw [who_xo] at h
  exact ⟨h, hb⟩
theorem xwc0 (a : Option Addr) (c : Nat) (w : World) (hS : SIn w 5 pB a) :
    Calls Tryd.prog 21 #[.agg #[.int .i64 2, .int .i64 2, .int .i64 2, .int .i64 2, .int .i64 2, .int .i64 2, .int .i64 2, .int .i64 2, .int .i64 2, .int .u32 5, .slice a 1 c], .agg #[.string ⟨#[99]⟩, .int .u32 0]] w fun e w' =>
      (∃ a' c', e = .returned (.tuple #[.agg #[.int .i64 0, .int .i64 0, .int .i64 0, .int .i64 0, .int .i64 0, .int .i64 0, .int .i64 0, .int .i64 0, .int .i64 0, .int .u32 0, .slice a' 0 c'], .int .i64 8])) ∧ Below w.heap.size w w' := by
  refine (With_any 2 2 2 2 2 2 2 2 2 5 0 ⟨#[99]⟩ pB a c w hS (by omega) (by omega) 0 pB_chk).mono ?_
  rintro e w' ⟨h1, hb⟩
  replace h1 := RetS.of h1 with_c0
  obtain ⟨a', c', h3, h2⟩ := h1
  exact ⟨⟨a', c', h3⟩, hb⟩
theorem xwb4 (a : Option Addr) (c : Nat) (w : World) (hS : SIn w 5 pB a) :
    Calls Tryd.prog 21 #[.agg #[.int .i64 2, .int .i64 2, .int .i64 2, .int .i64 2, .int .i64 2, .int .i64 2, .int .i64 2, .int .i64 2, .int .i64 2, .int .u32 5, .slice a 1 c], .agg #[.string ⟨#[98]⟩, .int .u32 4]] w fun e w' =>
      (∃ a' c', e = .returned (.tuple #[.agg #[.int .i64 0, .int .i64 0, .int .i64 0, .int .i64 0, .int .i64 0, .int .i64 0, .int .i64 0, .int .i64 0, .int .i64 0, .int .u32 0, .slice a' 0 c'], .int .i64 14])) ∧ Below w.heap.size w w' := by
  refine (With_any 2 2 2 2 2 2 2 2 2 5 4 ⟨#[98]⟩ pB a c w hS (by omega) (by omega) 0 pB_chk).mono ?_
  rintro e w' ⟨h1, hb⟩
  replace h1 := RetS.of h1 with_b4
  obtain ⟨a', c', h3, h2⟩ := h1
  exact ⟨⟨a', c', h3⟩, hb⟩
theorem xwc16 (a : Option Addr) (c : Nat) (w : World) (hS : SIn w 5 pB a) :
    Calls Tryd.prog 21 #[.agg #[.int .i64 2, .int .i64 2, .int .i64 2, .int .i64 2, .int .i64 2, .int .i64 2, .int .i64 2, .int .i64 2, .int .i64 2, .int .u32 5, .slice a 1 c], .agg #[.string ⟨#[99]⟩, .int .u32 16]] w fun e w' =>
      (∃ a' c', e = .returned (.tuple #[.agg #[.int .i64 0, .int .i64 0, .int .i64 0, .int .i64 0, .int .i64 0, .int .i64 0, .int .i64 0, .int .i64 0, .int .i64 0, .int .u32 0, .slice a' 0 c'], .int .i64 14])) ∧ Below w.heap.size w w' := by
  refine (With_any 2 2 2 2 2 2 2 2 2 5 16 ⟨#[99]⟩ pB a c w hS (by omega) (by omega) 0 pB_chk).mono ?_
  rintro e w' ⟨h1, hb⟩
  replace h1 := RetS.of h1 with_c16
  obtain ⟨a', c', h3, h2⟩ := h1
  exact ⟨⟨a', c', h3⟩, hb⟩
theorem xwcO (a : Option Addr) (c : Nat) (w : World) (hS : SIn w 5 pB a) :
    Calls Tryd.prog 21 #[.agg #[.int .i64 2, .int .i64 2, .int .i64 2, .int .i64 2, .int .i64 2, .int .i64 2, .int .i64 2, .int .i64 2, .int .i64 2, .int .u32 5, .slice a 1 c], .agg #[.string ⟨#[99]⟩, .int .u32 1024]] w fun e w' =>
      (∃ a' c', e = .returned (.tuple #[.agg #[.int .i64 0, .int .i64 0, .int .i64 0, .int .i64 0, .int .i64 0, .int .i64 0, .int .i64 0, .int .i64 0, .int .i64 0, .int .u32 0, .slice a' 0 c'], .int .i64 14])) ∧ Below w.heap.size w w' := by
  refine (With_any 2 2 2 2 2 2 2 2 2 5 1024 ⟨#[99]⟩ pB a c w hS (by omega) (by omega) 0 pB_chk).mono ?_
  rintro e w' ⟨h1, hb⟩
  replace h1 := RetS.of h1 with_cO
  obtain ⟨a', c', h3, h2⟩ := h1
  exact ⟨⟨a', c', h3⟩, hb⟩
theorem xwa4 (a : Option Addr) (c : Nat) (w : World) (hS : SIn w 5 pB a) :
    Calls Tryd.prog 21 #[.agg #[.int .i64 2, .int .i64 2, .int .i64 2, .int .i64 2, .int .i64 2, .int .i64 2, .int .i64 2, .int .i64 2, .int .i64 2, .int .u32 5, .slice a 1 c], .agg #[.string ⟨#[97]⟩, .int .u32 4]] w fun e w' =>
      (∃ a' c', e = .returned (.tuple #[.agg #[.int .i64 2, .int .i64 2, .int .i64 2, .int .i64 2, .int .i64 2, .int .i64 2, .int .i64 2, .int .i64 2, .int .i64 2, .int .u32 5, .slice a' 2 c'], .int .i64 0]) ∧ CellsAt w' a' (cel pAB)) ∧ Below w.heap.size w w' := by
  refine (With_any 2 2 2 2 2 2 2 2 2 5 4 ⟨#[97]⟩ pB a c w hS (by omega) (by omega) 0 pB_chk).mono ?_
  rintro e w' ⟨h1, hb⟩
  replace h1 := RetS.of h1 with_a4
  obtain ⟨a', c', h3, h2⟩ := h1
  exact ⟨⟨a', c', h3, h2⟩, hb⟩
theorem xoc (a : Option Addr) (c : Nat) (w : World) (hS : SIn w 5 pB a) :
    Calls Tryd.prog 22 #[.agg #[.int .i64 2, .int .i64 2, .int .i64 2, .int .i64 2, .int .i64 2, .int .i64 2, .int .i64 2, .int .i64 2, .int .i64 2, .int .u32 5, .slice a 1 c], .string ⟨#[99]⟩] w fun e w' =>
      (∃ a' c', e = .returned (.tuple #[.agg #[.int .i64 0, .int .i64 0, .int .i64 0, .int .i64 0, .int .i64 0, .int .i64 0, .int .i64 0, .int .i64 0, .int .i64 0, .int .u32 0, .slice a' 0 c'], .int .i64 6])) ∧ Below w.heap.size w w' := by
  refine (Without_any 2 2 2 2 2 2 2 2 2 5 ⟨#[99]⟩ pB a c w hS 0 pB_chk).mono ?_
  rintro e w' ⟨h1, hb⟩
  replace h1 := RetS.of h1 without_c
  obtain ⟨a', c', h3, h2⟩ := h1
  exact ⟨⟨a', c', h3⟩, hb⟩
theorem xob (a : Option Addr) (c : Nat) (w : World) (hS : SIn w 5 pB a) :
    Calls Tryd.prog 22 #[.agg #[.int .i64 2, .int .i64 2, .int .i64 2, .int .i64 2, .int .i64 2, .int .i64 2, .int .i64 2, .int .i64 2, .int .i64 2, .int .u32 5, .slice a 1 c], .string ⟨#[98]⟩] w fun e w' =>
      (∃ a' c', e = .returned (.tuple #[.agg #[.int .i64 2, .int .i64 2, .int .i64 2, .int .i64 2, .int .i64 2, .int .i64 2, .int .i64 2, .int .i64 2, .int .i64 2, .int .u32 5, .slice a' 0 c'], .int .i64 0]) ∧ CellsAt w' a' (cel [])) ∧ Below w.heap.size w w' := by
  refine (Without_any 2 2 2 2 2 2 2 2 2 5 ⟨#[98]⟩ pB a c w hS 0 pB_chk).mono ?_
  rintro e w' ⟨h1, hb⟩
  replace h1 := RetS.of h1 without_b
  obtain ⟨a', c', h3, h2⟩ := h1
  exact ⟨⟨a', c', h3, h2⟩, hb⟩
theorem parse_long (b : ByteArray) (w : World) (h1 : 1000 < b.size) (hb : b.size ≤ 100000) (hE : ErrIn w) (htab : ∀ W, Below w.heap.size w W → Lib.TabIs Tryd.prog W "internal/strconv.uint64pow10" .u64 Lib.pow10Tab) :
    Calls Tryd.prog 13 #[.string b] w fun e w' =>
      (∃ a' c', e = .returned (.tuple #[.agg #[.int .i64 0, .int .i64 0, .int .i64 0, .int .i64 0, .int .i64 0, .int .i64 0, .int .i64 0, .int .i64 0, .int .i64 0, .int .u32 0, .slice a' 0 c'], .int .i64 4])) ∧ Below w.heap.size w w' := by
  refine (Parse_any b w hb hE htab).mono ?_
  rintro e w' ⟨h, hbl⟩
  have h4 : pzR b = zOut 4 := by unfold pzR; rw [if_pos h1]
  replace h := RetS.of h h4
  obtain ⟨a', c', h3, h2⟩ := h
  exact ⟨⟨a', c', h3⟩, hbl⟩
end Go.Proofs.YthdldmkeoglflaaDoor

/- ConfigNames: the calls of region 41. -/
namespace Go.Proofs.YthdldmkeoglflaaDoor
set_option linter.unusedSimpArgs false
set_option linter.unusedVariables false
set_option linter.unnecessarySimpa false
open Go.RowKit
set_option linter.unusedVariables false


/-- The names a, b, c .., each with the key 4. -/
def nameP (k : Nat) : Peers := (List.range k).map fun i => (⟨#[UInt8.ofNat (97 + i)]⟩, 4)
theorem nameP_len (k : Nat) : (nameP k).length = k := by simp [nameP]
theorem any_all {ps : Peers} (h1 : (ps.all fun p => okN p.1) = true) (h2 : ∀ p ∈ ps, isB p.2 = true) : (ps.any fun p => !vP p) = false := by
  cases h : ps.any fun p => !vP p
  · rfl
  · obtain ⟨p, hp, he⟩ := List.any_eq_true.1 h
    have h3 := List.all_eq_true.1 h1 p hp
    unfold vP at he
    rw [h2 p hp, h3] at he
    cases he
theorem is_1x : isB 1 = true := isC 1 (by omega) (by omega) true (by decide +kernel)
theorem k_s2 : chkS L2x 500000002 [] = 0 := chk_ok (by decide) (by decide) (by decide) rfl (by decide) (by simp [distB])
theorem k_s3 : chkS L2x 500000003 [] = 2 := chk_sec (by decide)
theorem k_s0 : chkS L2x 0 [] = 2 := chk_sec (by decide)
theorem k_n9 : chkS L2x 5 (nameP 9) = 4 := by
  unfold chkS
  rw [if_pos (by decide), if_pos (by decide), if_neg (by decide)]
theorem k_n8 : chkS L2x 5 (nameP 8) = 14 := chk_dist (by decide) (by decide) (by decide) (any_all (by decide +kernel) (fun p hp => by
  obtain ⟨i, _, rfl⟩ := List.mem_map.1 hp
  exact is_4x)) (by decide +kernel) (by rw [pub_5]; decide +kernel)
theorem k_a0 : chkS L2x 5 [(⟨#[97]⟩, 0)] = 8 := chk_bad (by decide) (by decide) (by decide) (any_bad is_0)
theorem k_e16 : chkS L2x 5 [(⟨#[]⟩, 16)] = 8 := chk_bad (by decide) (by decide) (by decide) (by
  have h : okN ⟨#[]⟩ = false := by decide +kernel
  simp [vP, h])
theorem k_ba : chkS L2x 5 [(⟨#[98]⟩, 16), (⟨#[97]⟩, 16)] = 32 := chk_inc (by decide) (by decide) (by decide) (any_all (by decide +kernel) (fun p hp => by
  simp only [List.mem_cons, List.not_mem_nil, or_false] at hp
  rcases hp with rfl | rfl <;> exact is_16x)) (by decide +kernel)
theorem k_aa : chkS L2x 5 [(⟨#[97]⟩, 16), (⟨#[97]⟩, 4)] = 32 := chk_inc (by decide) (by decide) (by decide) (any_all (by decide +kernel) (fun p hp => by
  simp only [List.mem_cons, List.not_mem_nil, or_false] at hp
  rcases hp with rfl | rfl
  · exact is_16x
  · exact is_4x)) (by decide +kernel)
theorem k_lo : chkS L2x 5 [(⟨#[48, 49, 50, 51, 52, 53, 54, 55, 56, 57, 97, 122]⟩, 1)] = 0 := chk_ok (by decide) (by decide) (by decide) (any_all (by decide +kernel) (fun p hp => by
  simp only [List.mem_cons, List.not_mem_nil, or_false] at hp
  subst hp; exact is_1x)) (by decide +kernel) (by rw [pub_5]; decide +kernel)
theorem c_s2 (a : Option Addr) (c : Nat) (w : World) (hC : CellsAt w a (cel [])) :
    Calls Tryd.prog 11 #[.agg #[.int .i64 2, .int .i64 2, .int .i64 2, .int .i64 2, .int .i64 2, .int .i64 2, .int .i64 2, .int .i64 2, .int .i64 2, .int .u32 500000002, .slice a 0 c]] w fun e w' =>
      e = .returned (.int .i64 0) ∧ Below w.heap.size w w' := by
  have h := Check_any 2 2 2 2 2 2 2 2 2 500000002 [] a c w hC (by decide) (by decide) (PsOk.of (by decide +kernel) (by decide +kernel)).keys (by decide)
  rw [show chkS ⟨2, 2, 2, 2, 2, 2, 2, 2, 2⟩ 500000002 [] = 0 from k_s2] at h
  exact h
theorem c_s3 (a : Option Addr) (c : Nat) (w : World) (hC : CellsAt w a (cel [])) :
    Calls Tryd.prog 11 #[.agg #[.int .i64 2, .int .i64 2, .int .i64 2, .int .i64 2, .int .i64 2, .int .i64 2, .int .i64 2, .int .i64 2, .int .i64 2, .int .u32 500000003, .slice a 0 c]] w fun e w' =>
      e = .returned (.int .i64 2) ∧ Below w.heap.size w w' := by
  have h := Check_any 2 2 2 2 2 2 2 2 2 500000003 [] a c w hC (by decide) (by decide) (PsOk.of (by decide +kernel) (by decide +kernel)).keys (by decide)
  rw [show chkS ⟨2, 2, 2, 2, 2, 2, 2, 2, 2⟩ 500000003 [] = 2 from k_s3] at h
  exact h
theorem c_s0 (a : Option Addr) (c : Nat) (w : World) (hC : CellsAt w a (cel [])) :
    Calls Tryd.prog 11 #[.agg #[.int .i64 2, .int .i64 2, .int .i64 2, .int .i64 2, .int .i64 2, .int .i64 2, .int .i64 2, .int .i64 2, .int .i64 2, .int .u32 0, .slice a 0 c]] w fun e w' =>
      e = .returned (.int .i64 2) ∧ Below w.heap.size w w' := by
  have h := Check_any 2 2 2 2 2 2 2 2 2 0 [] a c w hC (by decide) (by decide) (PsOk.of (by decide +kernel) (by decide +kernel)).keys (by decide)
  rw [show chkS ⟨2, 2, 2, 2, 2, 2, 2, 2, 2⟩ 0 [] = 2 from k_s0] at h
  exact h
theorem c_n9 (a : Option Addr) (c : Nat) (w : World) (hC : CellsAt w a (cel (nameP 9))) :
    Calls Tryd.prog 11 #[.agg #[.int .i64 2, .int .i64 2, .int .i64 2, .int .i64 2, .int .i64 2, .int .i64 2, .int .i64 2, .int .i64 2, .int .i64 2, .int .u32 5, .slice a 9 c]] w fun e w' =>
      e = .returned (.int .i64 4) ∧ Below w.heap.size w w' := by
  have h := Check_any 2 2 2 2 2 2 2 2 2 5 (nameP 9) a c w hC (by decide) (by decide) (PsOk.of (by decide +kernel) (by decide +kernel)).keys (by decide)
  rw [show chkS ⟨2, 2, 2, 2, 2, 2, 2, 2, 2⟩ 5 (nameP 9) = 4 from k_n9] at h
  exact h
theorem c_n8 (a : Option Addr) (c : Nat) (w : World) (hC : CellsAt w a (cel (nameP 8))) :
    Calls Tryd.prog 11 #[.agg #[.int .i64 2, .int .i64 2, .int .i64 2, .int .i64 2, .int .i64 2, .int .i64 2, .int .i64 2, .int .i64 2, .int .i64 2, .int .u32 5, .slice a 8 c]] w fun e w' =>
      e = .returned (.int .i64 14) ∧ Below w.heap.size w w' := by
  have h := Check_any 2 2 2 2 2 2 2 2 2 5 (nameP 8) a c w hC (by decide) (by decide) (PsOk.of (by decide +kernel) (by decide +kernel)).keys (by decide)
  rw [show chkS ⟨2, 2, 2, 2, 2, 2, 2, 2, 2⟩ 5 (nameP 8) = 14 from k_n8] at h
  exact h
theorem c_a0 (a : Option Addr) (c : Nat) (w : World) (hC : CellsAt w a (cel [(⟨#[97]⟩, 0)])) :
    Calls Tryd.prog 11 #[.agg #[.int .i64 2, .int .i64 2, .int .i64 2, .int .i64 2, .int .i64 2, .int .i64 2, .int .i64 2, .int .i64 2, .int .i64 2, .int .u32 5, .slice a 1 c]] w fun e w' =>
      e = .returned (.int .i64 8) ∧ Below w.heap.size w w' := by
  have h := Check_any 2 2 2 2 2 2 2 2 2 5 [(⟨#[97]⟩, 0)] a c w hC (by decide) (by decide) (PsOk.of (by decide +kernel) (by decide +kernel)).keys (by decide)
  rw [show chkS ⟨2, 2, 2, 2, 2, 2, 2, 2, 2⟩ 5 [(⟨#[97]⟩, 0)] = 8 from k_a0] at h
  exact h
theorem c_e16 (a : Option Addr) (c : Nat) (w : World) (hC : CellsAt w a (cel [(⟨#[]⟩, 16)])) :
    Calls Tryd.prog 11 #[.agg #[.int .i64 2, .int .i64 2, .int .i64 2, .int .i64 2, .int .i64 2, .int .i64 2, .int .i64 2, .int .i64 2, .int .i64 2, .int .u32 5, .slice a 1 c]] w fun e w' =>
      e = .returned (.int .i64 8) ∧ Below w.heap.size w w' := by
  have h := Check_any 2 2 2 2 2 2 2 2 2 5 [(⟨#[]⟩, 16)] a c w hC (by decide) (by decide) (PsOk.of (by decide +kernel) (by decide +kernel)).keys (by decide)
  rw [show chkS ⟨2, 2, 2, 2, 2, 2, 2, 2, 2⟩ 5 [(⟨#[]⟩, 16)] = 8 from k_e16] at h
  exact h
theorem c_ba (a : Option Addr) (c : Nat) (w : World) (hC : CellsAt w a (cel [(⟨#[98]⟩, 16), (⟨#[97]⟩, 16)])) :
    Calls Tryd.prog 11 #[.agg #[.int .i64 2, .int .i64 2, .int .i64 2, .int .i64 2, .int .i64 2, .int .i64 2, .int .i64 2, .int .i64 2, .int .i64 2, .int .u32 5, .slice a 2 c]] w fun e w' =>
      e = .returned (.int .i64 32) ∧ Below w.heap.size w w' := by
  have h := Check_any 2 2 2 2 2 2 2 2 2 5 [(⟨#[98]⟩, 16), (⟨#[97]⟩, 16)] a c w hC (by decide) (by decide) (PsOk.of (by decide +kernel) (by decide +kernel)).keys (by decide)
  rw [show chkS ⟨2, 2, 2, 2, 2, 2, 2, 2, 2⟩ 5 [(⟨#[98]⟩, 16), (⟨#[97]⟩, 16)] = 32 from k_ba] at h
  exact h
theorem c_aa (a : Option Addr) (c : Nat) (w : World) (hC : CellsAt w a (cel [(⟨#[97]⟩, 16), (⟨#[97]⟩, 4)])) :
    Calls Tryd.prog 11 #[.agg #[.int .i64 2, .int .i64 2, .int .i64 2, .int .i64 2, .int .i64 2, .int .i64 2, .int .i64 2, .int .i64 2, .int .i64 2, .int .u32 5, .slice a 2 c]] w fun e w' =>
      e = .returned (.int .i64 32) ∧ Below w.heap.size w w' := by
  have h := Check_any 2 2 2 2 2 2 2 2 2 5 [(⟨#[97]⟩, 16), (⟨#[97]⟩, 4)] a c w hC (by decide) (by decide) (PsOk.of (by decide +kernel) (by decide +kernel)).keys (by decide)
  rw [show chkS ⟨2, 2, 2, 2, 2, 2, 2, 2, 2⟩ 5 [(⟨#[97]⟩, 16), (⟨#[97]⟩, 4)] = 32 from k_aa] at h
  exact h
theorem c_lo (a : Option Addr) (c : Nat) (w : World) (hC : CellsAt w a (cel [(⟨#[48, 49, 50, 51, 52, 53, 54, 55, 56, 57, 97, 122]⟩, 1)])) :
    Calls Tryd.prog 11 #[.agg #[.int .i64 2, .int .i64 2, .int .i64 2, .int .i64 2, .int .i64 2, .int .i64 2, .int .i64 2, .int .i64 2, .int .i64 2, .int .u32 5, .slice a 1 c]] w fun e w' =>
      e = .returned (.int .i64 0) ∧ Below w.heap.size w w' := by
  have h := Check_any 2 2 2 2 2 2 2 2 2 5 [(⟨#[48, 49, 50, 51, 52, 53, 54, 55, 56, 57, 97, 122]⟩, 1)] a c w hC (by decide) (by decide) (PsOk.of (by decide +kernel) (by decide +kernel)).keys (by decide)
  rw [show chkS ⟨2, 2, 2, 2, 2, 2, 2, 2, 2⟩ 5 [(⟨#[48, 49, 50, 51, 52, 53, 54, 55, 56, 57, 97, 122]⟩, 1)] = 0 from k_lo] at h
  exact h
end Go.Proofs.YthdldmkeoglflaaDoor

/- ConfigNames: a text that the form refuses. -/
namespace Go.Proofs.YthdldmkeoglflaaDoor
set_option linter.unusedSimpArgs false
set_option linter.unusedVariables false
set_option linter.unnecessarySimpa false
open Go.RowKit
set_option linter.unusedVariables false


/-- The text is not the program's own form of what it reads as (or that is not valid, by a reason that can be run). -/
def bad12 (b : ByteArray) : Bool :=
  let r := rowsL b.data.toList
  decide (b.size ≤ 1000) && (!(textL (readL r) (limN r 9) (peersN r) == b.data.toList) || (!fitB (readL r) || (!secB (limN r 9) || (decide (8 < (peersN r).length) || (((peersN r).any fun p => !okN p.1) || (!incB (peersN r) || !distB (pubK (limN r 9)) (peersN r)))))))
theorem okN_of {ps : Peers} (h : (ps.any fun p => !vP p) = false) : (ps.any fun p => !okN p.1) = false := by
  cases h2 : ps.any fun p => !okN p.1
  · rfl
  · obtain ⟨p, hp, he⟩ := List.any_eq_true.1 h2
    rw [← h]
    exact (List.any_eq_true.2 ⟨p, hp, by unfold vP; cases h3 : okN p.1 <;> simp_all⟩).symm
theorem bad_err {b : ByteArray} (h : bad12 b = true) : (pzR b).err = 12 := by
  unfold bad12 at h
  simp only [Bool.and_eq_true, decide_eq_true_eq] at h
  obtain ⟨hs, h⟩ := h
  unfold pzR
  rw [if_neg (by omega), if_neg]
  · rfl
  · rintro ⟨h1, h2⟩
    have hf : fitB (readL (rowsL b.data.toList)) = true := (CV.of h1).fit
    have hl := (CV.of h1).len
    have ho := okN_of (CV.of h1).ok
    have hd := (CV.of h1).dist
    have hc : secB (limN (rowsL b.data.toList) 9) = true ∧ incB (peersN (rowsL b.data.toList)) = true := by
      exact ⟨by unfold secB; rw [decide_eq_true (CV.of h1).s1, decide_eq_true (CV.of h1).s5]; rfl, incB_iff.2 (CV.of h1).inc⟩
    rw [hf, hc.1, hc.2, ho, hd, h2, decide_eq_false (by omega : ¬ 8 < (peersN (rowsL b.data.toList)).length)] at h
    simp at h
theorem form_bad (b : ByteArray) (w : World) (h : bad12 b = true) (hE : ErrIn w) (htab : ∀ W, Below w.heap.size w W → Lib.TabIs Tryd.prog W "internal/strconv.uint64pow10" .u64 Lib.pow10Tab) :
    Calls Tryd.prog 17 #[.string b] w fun e w' =>
      e = .returned (.bool true) ∧ Below w.heap.size w w' := by
  have hs : b.size ≤ 100000 := by
    unfold bad12 at h
    simp only [Bool.and_eq_true, decide_eq_true_eq] at h
    omega
  have := form_any b w hs hE htab
  rw [bad_err h] at this
  exact this
end Go.Proofs.YthdldmkeoglflaaDoor

/- ConfigNames, region 7: two limits are copied, in whatever order. -/
namespace Go.Proofs.YthdldmkeoglflaaDoor
open Go.RowKit Go.Sort
set_option linter.unusedSimpArgs false
set_option linter.unusedVariables false

def sl7 : List Tmp := [61, 62, 5, 6]
def val7 (us ul : List Value) (b5 b6 : Nat) : Nat → Value
  | 0 => .agg us.toArray
  | 1 => .agg ul.toArray
  | 2 => .pointer (some ⟨b5, 0, none⟩)
  | _ => .pointer (some ⟨b6, 0, none⟩)
def zeros9 : List Value := List.replicate 9 (Value.int .i64 0)
theorem wpOp_load {P : Program} {ops : Array Oper} {Q : Exit → Act → World → Prop} {i : Nat} {o : Oper} {K : Act → World → Prop} {a : Act} {w : World} (ho : ops[i]? = some o) (hg : o.guard = none) (ty : TypeId) (x : Operand) (hop : o.op = .load ty x)
    (B : Nat) (hx : a.eval x = .pointer (some ⟨B, 0, none⟩)) (t : TypeId) (cs : List Value) (d : TypeDesc) (h : Blk w B t cs)
    (hu : P.underlying ty = some d) (hd : (match d with | .struct _ | .array _ _ => true | _ => false) = true) (hi : (P.info? ty).map (·.size) = some cs.length)
    (hK : K (a.put o.dst (.agg cs.toArray)) w) : wpOp P ops Q i K a w := by
  unfold wpOp
  rw [ho]
  simp only
  rw [if_pos (by simp [Region.wanted, hg])]
  exact .inl (wp_load_row ty x hop B hx t cs.toArray (0, 0) d h hu hd (by simpa using hi) hK)
theorem infoC : (Tryd.prog.info? 23).map (·.size) = some 9 := by kernel_rfl
/-- Region 7: what holds whatever the order. -/
structure I7 (a0 : Act) (w0 : World) (us ul : List Value) (listed : Array Bool) (act : Act) (W : World) (b5 b6 : Nat) : Prop where
  fr : RegI a0 sl7 (val7 us ul b5 b6) listed act
  bel : Below w0.heap.size w0 W
  p2 : listed.getD 2 false = true → Blk W b5 23 (cond (listed.getD 4 false) us zeros9) ∧ w0.heap.size ≤ b5
  p3 : listed.getD 3 false = true → Blk W b6 23 (cond (listed.getD 5 false) ul zeros9) ∧ w0.heap.size ≤ b6
  ne : listed.getD 2 false = true → listed.getD 3 false = true → b5 ≠ b6
  c4 : listed.getD 4 false = true → listed.getD 2 false = true
  c5 : listed.getD 5 false = true → listed.getD 3 false = true
  sz : listed.size = 6
theorem I7.quiet {a0 act : Act} {w0 W : World} {us ul : List Value} {listed : Array Bool} {b5 b6 i : Nat} {s : Tmp} (h : I7 a0 w0 us ul listed act W b5 b6) (hi : sl7[i]? = some s) (h2 : i < 2) (hs : s < a0.tmps.size) (u : Value) (hu : u = val7 us ul b5 b6 i) :
    I7 a0 w0 us ul (listed.setIfInBounds i true) (act.put (some s) u) W b5 b6 := by
  refine ⟨h.fr.put (by decide) hi hs u hu, h.bel, ?_, ?_, ?_, ?_, ?_, by rw [Array.size_setIfInBounds]; exact h.sz⟩
  · rw [getD_set_other (by omega), getD_set_other (by omega)]; exact h.p2
  · rw [getD_set_other (by omega), getD_set_other (by omega)]; exact h.p3
  · rw [getD_set_other (by omega), getD_set_other (by omega)]; exact h.ne
  · rw [getD_set_other (by omega), getD_set_other (by omega)]; exact h.c4
  · rw [getD_set_other (by omega), getD_set_other (by omega)]; exact h.c5
theorem I7.alloc2 {a0 act : Act} {w0 W : World} {us ul : List Value} {listed : Array Bool} {b5 b6 : Nat} (h : I7 a0 w0 us ul listed act W b5 b6) (hun : listed.getD 2 false = false) (hs : 5 < a0.tmps.size) :
    I7 a0 w0 us ul (listed.setIfInBounds 2 true) (act.put (some 5) (.pointer (some ⟨W.heap.size, 0, none⟩))) (W.alloc (.cells zeros9.toArray 23)) W.heap.size b6 := by
  have h4 : listed.getD 4 false = false := by
    cases e : listed.getD 4 false with
    | false => rfl
    | true => rw [h.c4 e] at hun; cases hun
  have hfr : RegI a0 sl7 (val7 us ul W.heap.size b6) listed act := h.fr.val fun j _ hj => by
    match j with
    | 0 | 1 => rfl
    | 2 => rw [hj] at hun; cases hun
    | _ + 3 => rfl
  refine ⟨hfr.put (by decide) (i := 2) rfl hs _ rfl, h.bel.alloc h.bel.size _, fun _ => ?_, ?_, ?_, ?_, ?_, by rw [Array.size_setIfInBounds]; exact h.sz⟩
  · rw [getD_set_other (by omega), h4]
    exact ⟨Blk.newA W _ _ _ zeros9 rfl rfl, h.bel.size⟩
  · rw [getD_set_other (by omega), getD_set_other (by omega)]; exact fun hl => ⟨(h.p3 hl).1.alloc _, (h.p3 hl).2⟩
  · rw [getD_set_other (j := 3) (by omega)]; exact fun _ hl e => by have := (h.p3 hl).1.lt; omega
  · rw [getD_set_other (j := 4) (by omega), h4]; intro e; cases e
  · rw [getD_set_other (by omega), getD_set_other (by omega)]; exact h.c5
theorem I7.alloc3 {a0 act : Act} {w0 W : World} {us ul : List Value} {listed : Array Bool} {b5 b6 : Nat} (h : I7 a0 w0 us ul listed act W b5 b6) (hun : listed.getD 3 false = false) (hs : 6 < a0.tmps.size) :
    I7 a0 w0 us ul (listed.setIfInBounds 3 true) (act.put (some 6) (.pointer (some ⟨W.heap.size, 0, none⟩))) (W.alloc (.cells zeros9.toArray 23)) b5 W.heap.size := by
  have h5 : listed.getD 5 false = false := by
    cases e : listed.getD 5 false with
    | false => rfl
    | true => rw [h.c5 e] at hun; cases hun
  have hfr : RegI a0 sl7 (val7 us ul b5 W.heap.size) listed act := h.fr.val fun j hjl hj => by
    match j, hjl with
    | 0, _ | 1, _ | 2, _ => rfl
    | 3, _ => rw [hj] at hun; cases hun
    | j + 4, hl => have e : sl7.length = 4 := rfl; omega
  refine ⟨hfr.put (by decide) (i := 3) rfl hs _ rfl, h.bel.alloc h.bel.size _, ?_, fun _ => ?_, ?_, ?_, ?_, by rw [Array.size_setIfInBounds]; exact h.sz⟩
  · rw [getD_set_other (by omega), getD_set_other (by omega)]; exact fun hl => ⟨(h.p2 hl).1.alloc _, (h.p2 hl).2⟩
  · rw [getD_set_other (by omega), h5]
    exact ⟨Blk.newA W _ _ _ zeros9 rfl rfl, h.bel.size⟩
  · rw [getD_set_other (j := 2) (by omega)]; exact fun hl _ e => by have := (h.p2 hl).1.lt; omega
  · rw [getD_set_other (by omega), getD_set_other (by omega)]; exact h.c4
  · rw [getD_set_other (j := 5) (by omega), h5]; intro e; cases e
theorem I7.store4 {a0 act : Act} {w0 W : World} {us ul : List Value} {listed : Array Bool} {b5 b6 : Nat} (h : I7 a0 w0 us ul listed act W b5 b6) (h2 : listed.getD 2 false = true) (hun : listed.getD 4 false = false) (hl : us.length = 9) (u : Value) :
    I7 a0 w0 us ul (listed.setIfInBounds 4 true) (act.put none u) (W.setCells b5 0 us) b5 b6 := by
  refine ⟨h.fr.skip (by decide) u, below_setCells (h.p2 h2).2 _ _ _ h.bel, fun _ => ?_, ?_, ?_, ?_, ?_, by rw [Array.size_setIfInBounds]; exact h.sz⟩
  · rw [getD_set_same_true (by have := h.sz; omega)]
    have := h.p2 h2
    rw [hun] at this
    exact ⟨this.1.setAll (by rw [hl]; rfl), this.2⟩
  · rw [getD_set_other (by omega), getD_set_other (by omega)]
    exact fun hl => ⟨Blk.setCellsFar (fun e => h.ne h2 hl e.symm) _ _ _ (h.p3 hl).1, (h.p3 hl).2⟩
  · rw [getD_set_other (by omega), getD_set_other (by omega)]; exact h.ne
  · rw [getD_set_other (j := 2) (by omega)]; exact fun _ => h2
  · rw [getD_set_other (by omega), getD_set_other (by omega)]; exact h.c5
theorem I7.store5 {a0 act : Act} {w0 W : World} {us ul : List Value} {listed : Array Bool} {b5 b6 : Nat} (h : I7 a0 w0 us ul listed act W b5 b6) (h3 : listed.getD 3 false = true) (hun : listed.getD 5 false = false) (hl : ul.length = 9) (u : Value) :
    I7 a0 w0 us ul (listed.setIfInBounds 5 true) (act.put none u) (W.setCells b6 0 ul) b5 b6 := by
  refine ⟨h.fr.skip (by decide) u, below_setCells (h.p3 h3).2 _ _ _ h.bel, ?_, fun _ => ?_, ?_, ?_, ?_, by rw [Array.size_setIfInBounds]; exact h.sz⟩
  · rw [getD_set_other (by omega), getD_set_other (by omega)]
    exact fun hl => ⟨Blk.setCellsFar (fun e => h.ne hl h3 e) _ _ _ (h.p2 hl).1, (h.p2 hl).2⟩
  · rw [getD_set_same_true (by have := h.sz; omega)]
    have := h.p3 h3
    rw [hun] at this
    exact ⟨this.1.setAll (by rw [hl]; rfl), this.2⟩
  · rw [getD_set_other (by omega), getD_set_other (by omega)]; exact h.ne
  · rw [getD_set_other (by omega), getD_set_other (by omega)]; exact h.c4
  · rw [getD_set_other (j := 3) (by omega)]; exact fun _ => h3
/-- Region 7's end. -/
theorem I7.done {a0 act : Act} {w0 W : World} {us ul : List Value} {listed : Array Bool} {b5 b6 : Nat} (h : I7 a0 w0 us ul listed act W b5 b6) (hall : ∀ j, j < 6 → listed.getD j false = true) :
    act = putAll a0 (sl7.zip ((List.range 4).map (val7 us ul b5 b6))) ∧ Below w0.heap.size w0 W ∧ Blk W b5 23 us ∧ Blk W b6 23 ul ∧ b5 ≠ b6 ∧ w0.heap.size ≤ b5 ∧ w0.heap.size ≤ b6 := by
  have p2 := h.p2 (hall 2 (by omega))
  have p3 := h.p3 (hall 3 (by omega))
  rw [hall 4 (by omega)] at p2
  rw [hall 5 (by omega)] at p3
  refine ⟨?_, h.bel, p2.1, p3.1, h.ne (hall 2 (by omega)) (hall 3 (by omega)), p2.2, p3.2⟩
  have hv : ∀ j s, sl7[j]? = some s → act.eval (.tmp s) = val7 us ul b5 b6 j := fun j s hj => h.fr.vals j s hj (hall j (by have := (List.getElem?_eq_some_iff.1 hj).1; have e : sl7.length = 4 := rfl; omega))
  have he := h.fr.frame.eq
  rw [he]
  congr 1
  simp only [sl7, List.map_cons, List.map_nil]
  rw [hv 0 61 rfl, hv 1 62 rfl, hv 2 5 rfl, hv 3 6 rfl]
  rfl
end Go.Proofs.YthdldmkeoglflaaDoor
