/- What braidref44's who, Check, at, has return. -/
import Derived.Test.YthdldmkeoglflaaDoorCfgChk
namespace Go.Proofs.YthdldmkeoglflaaDoor
set_option maxRecDepth 100000
set_option linter.unusedSimpArgs false
set_option linter.unusedVariables false
set_option linter.unnecessarySimpa false
open Go.RowKit

theorem who_dup (K : Int) (ps : Peers) (i : Nat) (hi : i < ps.length) : decide (whoN K ps (pu ps i) < (i : Int)) = dupB K ps i := by
  unfold whoN dupB
  by_cases h : K = pu ps i
  · rw [if_pos h, decide_eq_true (by omega), decide_eq_true h.symm, Bool.true_or]
  · rw [if_neg h, decide_eq_false (p := pu ps i = K) (fun e => h e.symm), Bool.false_or]
    rw [Bool.eq_iff_iff, decide_eq_true_eq, List.any_eq_true]
    constructor
    · intro h1
      have h1 : pi ps (pu ps i) < i := by omega
      have hl : pi ps (pu ps i) < ps.length := by omega
      refine ⟨ps[pi ps (pu ps i)], List.mem_take_iff_getElem.2 ⟨pi ps (pu ps i), by omega, rfl⟩, ?_⟩
      rw [ps_at hl, beq_iff_eq]
      exact pi_at hl
    · rintro ⟨x, hx, he⟩
      obtain ⟨j, hj, rfl⟩ := List.mem_take_iff_getElem.1 hx
      rw [ps_at (by omega), beq_iff_eq] at he
      rcases Nat.lt_or_ge j (pi ps (pu ps i)) with h4 | h4
      · exact absurd he (pi_lt h4)
      · omega

set_option maxHeartbeats 1000000 in
theorem rwho_any (l0 l1 l2 l3 l4 l5 l6 l7 l8 : Int) (s q : Int) (ps : Peers) (a : Option Addr) (c : Nat) (w : World) (hc : CellsAt w a (cel ps)) (s0 : 0 ≤ s) (s4 : s < 4294967296) (hml : ps.length ≤ maxLen) :
    Calls Tryd.prog 43 #[.agg #[.int .i64 l0, .int .i64 l1, .int .i64 l2, .int .i64 l3, .int .i64 l4, .int .i64 l5, .int .i64 l6, .int .i64 l7, .int .i64 l8, .int .u32 s, .slice a ps.length c], .int .u32 q] w fun e w' =>
      e = .returned (.int .i64 (whoN (pubK s) ps q)) ∧ Below w.heap.size w w' := by
  unfold maxLen at hml
  obtain ⟨K, hK⟩ : ∃ K, pubK s = K := ⟨_, rfl⟩
  have hkey : ∀ W, Calls Tryd.prog 64 #[.int .u32 s] W fun e w' => e = .returned (.int .u32 K) ∧ W = w' := fun W => hK ▸ rkey_any s W s0 s4
  rw [hK]
  clear hK
  by_cases hKq : K = q
  · have hr : whoN K ps q = -1 := by unfold whoN; rw [if_pos hKq]
    rw [hr]
    clear hr
    subst hKq
    go_enter Tryd.func43, Tryd.ntmps43
    have hb0 := Below.refl w.heap.size w
    go_wp2_with fail
    refine (hkey _).mono ?_
    rintro e w' ⟨rfl, rfl⟩
    go_wp2_with fail
    go_ret
    exact ⟨rfl, (by repeat' (first | with_reducible exact hb0 | with_reducible refine Below.drew ?_ | with_reducible refine below_drewN ?_ _ | with_reducible refine Below.alloc ?_ (by have := hb0.size; first | (simp; done) | (simp; omega) | omega) _ | with_reducible refine Below.setCell ?_ (by first | (simp; done) | (simp; omega) | omega) _))⟩
  · have hKq' : (K == q) = false := beq_eq_false_iff_ne.2 hKq
    have hr : whoN K ps q = pi ps q := by unfold whoN; rw [if_neg hKq]
    rw [hr]
    clear hr
    go_enter Tryd.func43, Tryd.ntmps43
    have hb0 := Below.refl w.heap.size w
    go_wp2_with fail
    refine (hkey _).mono ?_
    rintro e w' ⟨rfl, rfl⟩
    go_wp2_with fail
    go_loopw [5] (fun i wr => ∃ k : Nat, k ≤ ps.length ∧ i = .int .i64 k ∧ Hid (∀ j, j < k → pu ps j ≠ q) ∧ Below w.heap.size w wr ∧ (wr.cell? ⟨w.heap.size, 10, none⟩ = some (.slice a ps.length c))) (fun i _ => ps.length - (intOf i).toNat)
    case atStart => exact ⟨0, Nat.zero_le _, rfl, hid (fun j hj => absurd hj (Nat.not_lt_zero _)), (by repeat' (first | with_reducible exact hb0 | with_reducible refine Below.drew ?_ | with_reducible refine below_drewN ?_ _ | with_reducible refine Below.alloc ?_ (by have := hb0.size; first | (simp; done) | (simp; omega) | omega) _ | with_reducible refine Below.setCell ?_ (by first | (simp; done) | (simp; omega) | omega) _)), by go_simp⟩
    case round =>
      obtain ⟨k, hk, rfl, hpre, hbw, X_10⟩ := hrel
      by_cases hlt : k < ps.length
      · have hlt' : (k : Int) < (ps.length : Int) := by omega
        obtain ⟨b, oo, rfl, g1, g2, hcell⟩ := hc.peers (by omega)
        have c1 := cell_later hbw (hcell k hlt).2
        clear hcell hc
        by_cases hq : pu ps k = q
        · have hpi := pi_char hk (fun i hi => hpre.out i hi) (fun _ => hq)
          rw [hq] at c1
          have H_hq := Box.mk hq
          have H_hpi := Box.mk hpi
          clear hq hpi
          go_wp2_with fail
          go_ret
          exact ⟨ret_int (by rw [H_hpi.out]), (by repeat' (first | with_reducible exact hbw | with_reducible refine Below.drew ?_ | with_reducible refine below_drewN ?_ _ | with_reducible refine Below.alloc ?_ (by have := hbw.size; first | (simp; done) | (simp; omega) | omega) _ | with_reducible refine Below.setCell ?_ (by first | (simp; done) | (simp; omega) | omega) _))⟩
        · have hq' : (pu ps k == q) = false := beq_eq_false_iff_ne.2 hq
          go_wp2_with fail
          go_roundw
          case rel => exact ⟨k + 1, by omega, by go_num, hid (fun j hj => by
            by_cases hjk : j < k
            · exact hpre.out j hjk
            · obtain rfl : j = k := by omega
              exact hq), (by repeat' (first | with_reducible exact hbw | with_reducible refine Below.drew ?_ | with_reducible refine below_drewN ?_ _ | with_reducible refine Below.alloc ?_ (by have := hbw.size; first | (simp; done) | (simp; omega) | omega) _ | with_reducible refine Below.setCell ?_ (by first | (simp; done) | (simp; omega) | omega) _)), by go_simp⟩
          case measure => simp [intOf]; omega
      · obtain rfl : k = ps.length := by omega
        have hpi := pi_char hk (fun i hi => hpre.out i hi) (fun h => absurd h hlt)
        have H_hpi := Box.mk hpi
        clear hpi
        clear hpre
        go_wp2_with fail
        go_ret
        exact ⟨ret_int (by rw [H_hpi.out]), (by repeat' (first | with_reducible exact hbw | with_reducible refine Below.drew ?_ | with_reducible refine below_drewN ?_ _ | with_reducible refine Below.alloc ?_ (by have := hbw.size; first | (simp; done) | (simp; omega) | omega) _ | with_reducible refine Below.setCell ?_ (by first | (simp; done) | (simp; omega) | omega) _))⟩

theorem any_at {ps : Peers} {k : Nat} (hk : k < ps.length) (h : vP (nm ps k, pu ps k) = false) : (ps.any fun p => !vP p) = true :=
  List.any_eq_true.2 ⟨_, ps_mem hk, by rw [h]; rfl⟩
theorem any_none {ps : Peers} (h : ∀ k, k < ps.length → vP (nm ps k, pu ps k) = true) : (ps.any fun p => !vP p) = false := by
  cases h2 : ps.any fun p => !vP p
  · rfl
  · obtain ⟨x, hx, hp⟩ := List.any_eq_true.1 h2
    obtain ⟨j, hj, rfl⟩ := List.getElem_of_mem hx
    rw [ps_at hj, h j hj] at hp
    cases hp
theorem cells11 {w : World} {B : Nat} {v0 v1 v2 v3 v4 v5 v6 v7 v8 v9 v10 : Value} (c0 : w.cell? ⟨B, 0, none⟩ = some v0) (c1 : w.cell? ⟨B, 1, none⟩ = some v1) (c2 : w.cell? ⟨B, 2, none⟩ = some v2) (c3 : w.cell? ⟨B, 3, none⟩ = some v3) (c4 : w.cell? ⟨B, 4, none⟩ = some v4) (c5 : w.cell? ⟨B, 5, none⟩ = some v5) (c6 : w.cell? ⟨B, 6, none⟩ = some v6) (c7 : w.cell? ⟨B, 7, none⟩ = some v7) (c8 : w.cell? ⟨B, 8, none⟩ = some v8) (c9 : w.cell? ⟨B, 9, none⟩ = some v9) (c10 : w.cell? ⟨B, 10, none⟩ = some v10) :
    CellsAt w (some ⟨B, 0, none⟩) [v0, v1, v2, v3, v4, v5, v6, v7, v8, v9, v10] :=
  .inr ⟨B, 0, rfl, fun j u hj => match j, hj with
    | 0, rfl => c0
    | 1, rfl => c1
    | 2, rfl => c2
    | 3, rfl => c3
    | 4, rfl => c4
    | 5, rfl => c5
    | 6, rfl => c6
    | 7, rfl => c7
    | 8, rfl => c8
    | 9, rfl => c9
    | 10, rfl => c10
    | j + 11, hj => by simp at hj⟩
theorem cells11_at {w : World} {B : Nat} {l : List Value} {j : Nat} {v : Value} (h : CellsAt w (some ⟨B, 0, none⟩) l) (hj : l[j]? = some v) : w.cell? ⟨B, j, none⟩ = some v := by
  rcases h with h | ⟨b, o, e, h⟩
  · rw [h] at hj; cases hj
  · cases e
    have := h j v hj
    rwa [Nat.zero_add] at this
set_option maxHeartbeats 4000000 in
theorem rCheck_any (l0 l1 l2 l3 l4 l5 l6 l7 l8 : Int) (s : Int) (ps : Peers) (a : Option Addr) (c : Nat) (w : World) (hc : CellsAt w a (cel ps)) (s0 : 0 ≤ s) (s4 : s < 4294967296) (hk : Keys ps) (hml : ps.length ≤ maxLen) :
    Calls Tryd.prog 12 #[.agg #[.int .i64 l0, .int .i64 l1, .int .i64 l2, .int .i64 l3, .int .i64 l4, .int .i64 l5, .int .i64 l6, .int .i64 l7, .int .i64 l8, .int .u32 s, .slice a ps.length c]] w fun e w' =>
      e = .returned (.int .i64 (chkS (⟨l0, l1, l2, l3, l4, l5, l6, l7, l8⟩ : Lim) s ps)) ∧ Below w.heap.size w w' := by
  obtain ⟨R, hR⟩ : ∃ R, R = chkS (⟨l0, l1, l2, l3, l4, l5, l6, l7, l8⟩ : Lim) s ps := ⟨_, rfl⟩
  have r1 := fun h => hR.trans (chk_fit (L := (⟨l0, l1, l2, l3, l4, l5, l6, l7, l8⟩ : Lim)) (s := s) (ps := ps) h)
  have r2 := fun h => hR.trans (chk_sec (L := (⟨l0, l1, l2, l3, l4, l5, l6, l7, l8⟩ : Lim)) (s := s) (ps := ps) h)
  have r3 := fun h1 h2 h3 => hR.trans (chk_many (L := (⟨l0, l1, l2, l3, l4, l5, l6, l7, l8⟩ : Lim)) (s := s) (ps := ps) h1 h2 h3)
  have r4 := fun h1 h2 h3 h4 => hR.trans (chk_bad (L := (⟨l0, l1, l2, l3, l4, l5, l6, l7, l8⟩ : Lim)) (s := s) (ps := ps) h1 h2 h3 h4)
  have r5 := fun h1 h2 h3 h4 h5 => hR.trans (chk_inc (L := (⟨l0, l1, l2, l3, l4, l5, l6, l7, l8⟩ : Lim)) (s := s) (ps := ps) h1 h2 h3 h4 h5)
  have r6 := fun h1 h2 h3 h4 h5 h6 => hR.trans (chk_dist (L := (⟨l0, l1, l2, l3, l4, l5, l6, l7, l8⟩ : Lim)) (s := s) (ps := ps) h1 h2 h3 h4 h5 h6)
  have r7 := fun h1 h2 h3 h4 h5 h6 => hR.trans (chk_ok (L := (⟨l0, l1, l2, l3, l4, l5, l6, l7, l8⟩ : Lim)) (s := s) (ps := ps) h1 h2 h3 h4 h5 h6)
  have hwho := fun q W g => rwho_any l0 l1 l2 l3 l4 l5 l6 l7 l8 s q ps a c W g s0 s4 hml
  have hsec := rcheck_any s w s0 s4
  rw [← hR]
  cases hF : fitB (⟨l0, l1, l2, l3, l4, l5, l6, l7, l8⟩ : Lim) with
  | false =>
    have hRR := r1 hF
    have H_hF := Box.mk hF
    have H_hRR := Box.mk hRR
    have H_hwho := Box.mk hwho
    have H_hsec := Box.mk hsec
    clear hF hRR hwho hsec
    clear r1 r2 r3 r4 r5 r6 r7 hR
    go_enter Tryd.func12, Tryd.ntmps12
    have hb0 := Below.refl w.heap.size w
    go_wp2_with fail
    with_reducible refine (fits_any l0 l1 l2 l3 l4 l5 l6 l7 l8 _).mono ?_
    rintro e w1 ⟨rfl, hc1⟩
    have hb1 : Below w.heap.size w w1 := bchain (by repeat' (first | with_reducible exact hb0 | with_reducible refine Below.drew ?_ | with_reducible refine below_drewN ?_ _ | with_reducible refine Below.alloc ?_ (by have := hb0.size; first | (simp; done) | (simp; omega) | omega) _ | with_reducible refine Below.setCell ?_ (by first | (simp; done) | (simp; omega) | omega) _)) hc1
    have hst1 : Below w.heap.size w w1 := bchain (by repeat' (first | with_reducible exact Below.refl _ _ | with_reducible refine Below.drew ?_ | with_reducible refine below_drewN ?_ _ | with_reducible refine Below.alloc ?_ (by first | (simp; done) | (simp; omega) | omega) _ | with_reducible refine Below.setCell ?_ (by first | (simp; done) | (simp; omega) | omega) _)) hc1
    have X_0 : w1.cell? ⟨w.heap.size, 0, none⟩ = some (.int .i64 l0) := (hc1.cell (p := ⟨w.heap.size, 0, none⟩) (by first | (simp; done) | (simp; omega))).trans (by first | (simp; done) | go_simp)
    have X_1 : w1.cell? ⟨w.heap.size, 1, none⟩ = some (.int .i64 l1) := (hc1.cell (p := ⟨w.heap.size, 1, none⟩) (by first | (simp; done) | (simp; omega))).trans (by first | (simp; done) | go_simp)
    have X_2 : w1.cell? ⟨w.heap.size, 2, none⟩ = some (.int .i64 l2) := (hc1.cell (p := ⟨w.heap.size, 2, none⟩) (by first | (simp; done) | (simp; omega))).trans (by first | (simp; done) | go_simp)
    have X_3 : w1.cell? ⟨w.heap.size, 3, none⟩ = some (.int .i64 l3) := (hc1.cell (p := ⟨w.heap.size, 3, none⟩) (by first | (simp; done) | (simp; omega))).trans (by first | (simp; done) | go_simp)
    have X_4 : w1.cell? ⟨w.heap.size, 4, none⟩ = some (.int .i64 l4) := (hc1.cell (p := ⟨w.heap.size, 4, none⟩) (by first | (simp; done) | (simp; omega))).trans (by first | (simp; done) | go_simp)
    have X_5 : w1.cell? ⟨w.heap.size, 5, none⟩ = some (.int .i64 l5) := (hc1.cell (p := ⟨w.heap.size, 5, none⟩) (by first | (simp; done) | (simp; omega))).trans (by first | (simp; done) | go_simp)
    have X_6 : w1.cell? ⟨w.heap.size, 6, none⟩ = some (.int .i64 l6) := (hc1.cell (p := ⟨w.heap.size, 6, none⟩) (by first | (simp; done) | (simp; omega))).trans (by first | (simp; done) | go_simp)
    have X_7 : w1.cell? ⟨w.heap.size, 7, none⟩ = some (.int .i64 l7) := (hc1.cell (p := ⟨w.heap.size, 7, none⟩) (by first | (simp; done) | (simp; omega))).trans (by first | (simp; done) | go_simp)
    have X_8 : w1.cell? ⟨w.heap.size, 8, none⟩ = some (.int .i64 l8) := (hc1.cell (p := ⟨w.heap.size, 8, none⟩) (by first | (simp; done) | (simp; omega))).trans (by first | (simp; done) | go_simp)
    have X_9 : w1.cell? ⟨w.heap.size, 9, none⟩ = some (.int .u32 s) := (hc1.cell (p := ⟨w.heap.size, 9, none⟩) (by first | (simp; done) | (simp; omega))).trans (by first | (simp; done) | go_simp)
    have X_10 : w1.cell? ⟨w.heap.size, 10, none⟩ = some (.slice a ps.length c) := (hc1.cell (p := ⟨w.heap.size, 10, none⟩) (by first | (simp; done) | (simp; omega))).trans (by first | (simp; done) | go_simp)
    have X_l : w.heap.size < w1.heap.size := Nat.lt_of_lt_of_le (by first | (simp; done) | (simp; omega)) hc1.size
    replace hc := hc.later hst1
    clear hst1
    clear hc1 hb0
    rw [H_hF.out]
    go_wp2_with fail
    go_ret
    exact ⟨ret_int H_hRR.out.symm, (by repeat' (first | with_reducible exact hb1 | with_reducible refine Below.drew ?_ | with_reducible refine below_drewN ?_ _ | with_reducible refine Below.alloc ?_ (by have := hb1.size; first | (simp; done) | (simp; omega) | omega) _ | with_reducible refine Below.setCell ?_ (by first | (simp; done) | (simp; omega) | omega) _))⟩
  | true =>
    cases hs : secB s with
    | false =>
      have hsec : ∀ W, Calls Tryd.prog 41 #[.int .u32 s] W fun e w' => e = .returned (.int .i64 2) ∧ W = w' := fun W => by
        have := rcheck_any s W s0 s4
        rwa [hs] at this
      have hRR := r2 hs
      have H_hF := Box.mk hF
      have H_hRR := Box.mk hRR
      have H_hwho := Box.mk hwho
      have H_hs := Box.mk hs
      clear hF hRR hwho hs
      clear r1 r2 r3 r4 r5 r6 r7 hR
      go_enter Tryd.func12, Tryd.ntmps12
      have hb0 := Below.refl w.heap.size w
      go_wp2_with fail
      with_reducible refine (fits_any l0 l1 l2 l3 l4 l5 l6 l7 l8 _).mono ?_
      rintro e w1 ⟨rfl, hc1⟩
      have hb1 : Below w.heap.size w w1 := bchain (by repeat' (first | with_reducible exact hb0 | with_reducible refine Below.drew ?_ | with_reducible refine below_drewN ?_ _ | with_reducible refine Below.alloc ?_ (by have := hb0.size; first | (simp; done) | (simp; omega) | omega) _ | with_reducible refine Below.setCell ?_ (by first | (simp; done) | (simp; omega) | omega) _)) hc1
      have hst1 : Below w.heap.size w w1 := bchain (by repeat' (first | with_reducible exact Below.refl _ _ | with_reducible refine Below.drew ?_ | with_reducible refine below_drewN ?_ _ | with_reducible refine Below.alloc ?_ (by first | (simp; done) | (simp; omega) | omega) _ | with_reducible refine Below.setCell ?_ (by first | (simp; done) | (simp; omega) | omega) _)) hc1
      have X_0 : w1.cell? ⟨w.heap.size, 0, none⟩ = some (.int .i64 l0) := (hc1.cell (p := ⟨w.heap.size, 0, none⟩) (by first | (simp; done) | (simp; omega))).trans (by first | (simp; done) | go_simp)
      have X_1 : w1.cell? ⟨w.heap.size, 1, none⟩ = some (.int .i64 l1) := (hc1.cell (p := ⟨w.heap.size, 1, none⟩) (by first | (simp; done) | (simp; omega))).trans (by first | (simp; done) | go_simp)
      have X_2 : w1.cell? ⟨w.heap.size, 2, none⟩ = some (.int .i64 l2) := (hc1.cell (p := ⟨w.heap.size, 2, none⟩) (by first | (simp; done) | (simp; omega))).trans (by first | (simp; done) | go_simp)
      have X_3 : w1.cell? ⟨w.heap.size, 3, none⟩ = some (.int .i64 l3) := (hc1.cell (p := ⟨w.heap.size, 3, none⟩) (by first | (simp; done) | (simp; omega))).trans (by first | (simp; done) | go_simp)
      have X_4 : w1.cell? ⟨w.heap.size, 4, none⟩ = some (.int .i64 l4) := (hc1.cell (p := ⟨w.heap.size, 4, none⟩) (by first | (simp; done) | (simp; omega))).trans (by first | (simp; done) | go_simp)
      have X_5 : w1.cell? ⟨w.heap.size, 5, none⟩ = some (.int .i64 l5) := (hc1.cell (p := ⟨w.heap.size, 5, none⟩) (by first | (simp; done) | (simp; omega))).trans (by first | (simp; done) | go_simp)
      have X_6 : w1.cell? ⟨w.heap.size, 6, none⟩ = some (.int .i64 l6) := (hc1.cell (p := ⟨w.heap.size, 6, none⟩) (by first | (simp; done) | (simp; omega))).trans (by first | (simp; done) | go_simp)
      have X_7 : w1.cell? ⟨w.heap.size, 7, none⟩ = some (.int .i64 l7) := (hc1.cell (p := ⟨w.heap.size, 7, none⟩) (by first | (simp; done) | (simp; omega))).trans (by first | (simp; done) | go_simp)
      have X_8 : w1.cell? ⟨w.heap.size, 8, none⟩ = some (.int .i64 l8) := (hc1.cell (p := ⟨w.heap.size, 8, none⟩) (by first | (simp; done) | (simp; omega))).trans (by first | (simp; done) | go_simp)
      have X_9 : w1.cell? ⟨w.heap.size, 9, none⟩ = some (.int .u32 s) := (hc1.cell (p := ⟨w.heap.size, 9, none⟩) (by first | (simp; done) | (simp; omega))).trans (by first | (simp; done) | go_simp)
      have X_10 : w1.cell? ⟨w.heap.size, 10, none⟩ = some (.slice a ps.length c) := (hc1.cell (p := ⟨w.heap.size, 10, none⟩) (by first | (simp; done) | (simp; omega))).trans (by first | (simp; done) | go_simp)
      have X_l : w.heap.size < w1.heap.size := Nat.lt_of_lt_of_le (by first | (simp; done) | (simp; omega)) hc1.size
      replace hc := hc.later hst1
      clear hst1
      clear hc1 hb0
      rw [H_hF.out]
      go_wp2_with fail
      refine (hsec _).mono ?_
      rintro e w' ⟨rfl, rfl⟩
      go_wp2_with fail
      go_ret
      exact ⟨ret_int H_hRR.out.symm, (by repeat' (first | with_reducible exact hb1 | with_reducible refine Below.drew ?_ | with_reducible refine below_drewN ?_ _ | with_reducible refine Below.alloc ?_ (by have := hb1.size; first | (simp; done) | (simp; omega) | omega) _ | with_reducible refine Below.setCell ?_ (by first | (simp; done) | (simp; omega) | omega) _))⟩
    | true =>
      have hsec : ∀ W, Calls Tryd.prog 41 #[.int .u32 s] W fun e w' => e = .returned (.int .i64 0) ∧ W = w' := fun W => by
        have := rcheck_any s W s0 s4
        rwa [hs] at this
      by_cases h8 : 8 < ps.length
      · have h8' : (8 : Int) < (ps.length : Int) := by omega
        have hRR := r3 hF hs h8
        have H_hF := Box.mk hF
        have H_hRR := Box.mk hRR
        have H_hwho := Box.mk hwho
        have H_hs := Box.mk hs
        clear hF hRR hwho hs
        clear r1 r2 r3 r4 r5 r6 r7 hR
        go_enter Tryd.func12, Tryd.ntmps12
        have hb0 := Below.refl w.heap.size w
        go_wp2_with fail
        with_reducible refine (fits_any l0 l1 l2 l3 l4 l5 l6 l7 l8 _).mono ?_
        rintro e w1 ⟨rfl, hc1⟩
        have hb1 : Below w.heap.size w w1 := bchain (by repeat' (first | with_reducible exact hb0 | with_reducible refine Below.drew ?_ | with_reducible refine below_drewN ?_ _ | with_reducible refine Below.alloc ?_ (by have := hb0.size; first | (simp; done) | (simp; omega) | omega) _ | with_reducible refine Below.setCell ?_ (by first | (simp; done) | (simp; omega) | omega) _)) hc1
        have hst1 : Below w.heap.size w w1 := bchain (by repeat' (first | with_reducible exact Below.refl _ _ | with_reducible refine Below.drew ?_ | with_reducible refine below_drewN ?_ _ | with_reducible refine Below.alloc ?_ (by first | (simp; done) | (simp; omega) | omega) _ | with_reducible refine Below.setCell ?_ (by first | (simp; done) | (simp; omega) | omega) _)) hc1
        have X_0 : w1.cell? ⟨w.heap.size, 0, none⟩ = some (.int .i64 l0) := (hc1.cell (p := ⟨w.heap.size, 0, none⟩) (by first | (simp; done) | (simp; omega))).trans (by first | (simp; done) | go_simp)
        have X_1 : w1.cell? ⟨w.heap.size, 1, none⟩ = some (.int .i64 l1) := (hc1.cell (p := ⟨w.heap.size, 1, none⟩) (by first | (simp; done) | (simp; omega))).trans (by first | (simp; done) | go_simp)
        have X_2 : w1.cell? ⟨w.heap.size, 2, none⟩ = some (.int .i64 l2) := (hc1.cell (p := ⟨w.heap.size, 2, none⟩) (by first | (simp; done) | (simp; omega))).trans (by first | (simp; done) | go_simp)
        have X_3 : w1.cell? ⟨w.heap.size, 3, none⟩ = some (.int .i64 l3) := (hc1.cell (p := ⟨w.heap.size, 3, none⟩) (by first | (simp; done) | (simp; omega))).trans (by first | (simp; done) | go_simp)
        have X_4 : w1.cell? ⟨w.heap.size, 4, none⟩ = some (.int .i64 l4) := (hc1.cell (p := ⟨w.heap.size, 4, none⟩) (by first | (simp; done) | (simp; omega))).trans (by first | (simp; done) | go_simp)
        have X_5 : w1.cell? ⟨w.heap.size, 5, none⟩ = some (.int .i64 l5) := (hc1.cell (p := ⟨w.heap.size, 5, none⟩) (by first | (simp; done) | (simp; omega))).trans (by first | (simp; done) | go_simp)
        have X_6 : w1.cell? ⟨w.heap.size, 6, none⟩ = some (.int .i64 l6) := (hc1.cell (p := ⟨w.heap.size, 6, none⟩) (by first | (simp; done) | (simp; omega))).trans (by first | (simp; done) | go_simp)
        have X_7 : w1.cell? ⟨w.heap.size, 7, none⟩ = some (.int .i64 l7) := (hc1.cell (p := ⟨w.heap.size, 7, none⟩) (by first | (simp; done) | (simp; omega))).trans (by first | (simp; done) | go_simp)
        have X_8 : w1.cell? ⟨w.heap.size, 8, none⟩ = some (.int .i64 l8) := (hc1.cell (p := ⟨w.heap.size, 8, none⟩) (by first | (simp; done) | (simp; omega))).trans (by first | (simp; done) | go_simp)
        have X_9 : w1.cell? ⟨w.heap.size, 9, none⟩ = some (.int .u32 s) := (hc1.cell (p := ⟨w.heap.size, 9, none⟩) (by first | (simp; done) | (simp; omega))).trans (by first | (simp; done) | go_simp)
        have X_10 : w1.cell? ⟨w.heap.size, 10, none⟩ = some (.slice a ps.length c) := (hc1.cell (p := ⟨w.heap.size, 10, none⟩) (by first | (simp; done) | (simp; omega))).trans (by first | (simp; done) | go_simp)
        have X_l : w.heap.size < w1.heap.size := Nat.lt_of_lt_of_le (by first | (simp; done) | (simp; omega)) hc1.size
        replace hc := hc.later hst1
        clear hst1
        clear hc1 hb0
        rw [H_hF.out]
        go_wp2_with fail
        refine (hsec _).mono ?_
        rintro e w' ⟨rfl, rfl⟩
        go_wp2_with fail
        go_ret
        exact ⟨ret_int H_hRR.out.symm, (by repeat' (first | with_reducible exact hb1 | with_reducible refine Below.drew ?_ | with_reducible refine below_drewN ?_ _ | with_reducible refine Below.alloc ?_ (by have := hb1.size; first | (simp; done) | (simp; omega) | omega) _ | with_reducible refine Below.setCell ?_ (by first | (simp; done) | (simp; omega) | omega) _))⟩
      · have h8' : ¬ ((8 : Int) < (ps.length : Int)) := by omega
        have hle : ps.length ≤ 8 := by omega
        replace r4 := fun h4 => r4 hF hs hle h4
        replace r5 := fun h4 h5 => r5 hF hs hle h4 h5
        replace r6 := fun h4 h5 h6 => r6 hF hs hle h4 h5 h6
        replace r7 := fun h4 h5 h6 => r7 hF hs hle h4 h5 h6
        have Hc0 := hid hc
        clear hR r1 r2 r3
        have H_hF := Box.mk hF
        have H_hwho := Box.mk hwho
        have H_hs := Box.mk hs
        have H_r4 := Box.mk r4
        have H_r5 := Box.mk r5
        have H_r6 := Box.mk r6
        have H_r7 := Box.mk r7
        have H_hk := Box.mk hk
        clear hF hwho hs r4 r5 r6 r7 hk
        go_enter Tryd.func12, Tryd.ntmps12
        have hb0 := Below.refl w.heap.size w
        go_wp2_with fail
        with_reducible refine (fits_any l0 l1 l2 l3 l4 l5 l6 l7 l8 _).mono ?_
        rintro e w1 ⟨rfl, hc1⟩
        have hb1 : Below w.heap.size w w1 := bchain (by repeat' (first | with_reducible exact hb0 | with_reducible refine Below.drew ?_ | with_reducible refine below_drewN ?_ _ | with_reducible refine Below.alloc ?_ (by have := hb0.size; first | (simp; done) | (simp; omega) | omega) _ | with_reducible refine Below.setCell ?_ (by first | (simp; done) | (simp; omega) | omega) _)) hc1
        have hst1 : Below w.heap.size w w1 := bchain (by repeat' (first | with_reducible exact Below.refl _ _ | with_reducible refine Below.drew ?_ | with_reducible refine below_drewN ?_ _ | with_reducible refine Below.alloc ?_ (by first | (simp; done) | (simp; omega) | omega) _ | with_reducible refine Below.setCell ?_ (by first | (simp; done) | (simp; omega) | omega) _)) hc1
        have X_0 : w1.cell? ⟨w.heap.size, 0, none⟩ = some (.int .i64 l0) := (hc1.cell (p := ⟨w.heap.size, 0, none⟩) (by first | (simp; done) | (simp; omega))).trans (by first | (simp; done) | go_simp)
        have X_1 : w1.cell? ⟨w.heap.size, 1, none⟩ = some (.int .i64 l1) := (hc1.cell (p := ⟨w.heap.size, 1, none⟩) (by first | (simp; done) | (simp; omega))).trans (by first | (simp; done) | go_simp)
        have X_2 : w1.cell? ⟨w.heap.size, 2, none⟩ = some (.int .i64 l2) := (hc1.cell (p := ⟨w.heap.size, 2, none⟩) (by first | (simp; done) | (simp; omega))).trans (by first | (simp; done) | go_simp)
        have X_3 : w1.cell? ⟨w.heap.size, 3, none⟩ = some (.int .i64 l3) := (hc1.cell (p := ⟨w.heap.size, 3, none⟩) (by first | (simp; done) | (simp; omega))).trans (by first | (simp; done) | go_simp)
        have X_4 : w1.cell? ⟨w.heap.size, 4, none⟩ = some (.int .i64 l4) := (hc1.cell (p := ⟨w.heap.size, 4, none⟩) (by first | (simp; done) | (simp; omega))).trans (by first | (simp; done) | go_simp)
        have X_5 : w1.cell? ⟨w.heap.size, 5, none⟩ = some (.int .i64 l5) := (hc1.cell (p := ⟨w.heap.size, 5, none⟩) (by first | (simp; done) | (simp; omega))).trans (by first | (simp; done) | go_simp)
        have X_6 : w1.cell? ⟨w.heap.size, 6, none⟩ = some (.int .i64 l6) := (hc1.cell (p := ⟨w.heap.size, 6, none⟩) (by first | (simp; done) | (simp; omega))).trans (by first | (simp; done) | go_simp)
        have X_7 : w1.cell? ⟨w.heap.size, 7, none⟩ = some (.int .i64 l7) := (hc1.cell (p := ⟨w.heap.size, 7, none⟩) (by first | (simp; done) | (simp; omega))).trans (by first | (simp; done) | go_simp)
        have X_8 : w1.cell? ⟨w.heap.size, 8, none⟩ = some (.int .i64 l8) := (hc1.cell (p := ⟨w.heap.size, 8, none⟩) (by first | (simp; done) | (simp; omega))).trans (by first | (simp; done) | go_simp)
        have X_9 : w1.cell? ⟨w.heap.size, 9, none⟩ = some (.int .u32 s) := (hc1.cell (p := ⟨w.heap.size, 9, none⟩) (by first | (simp; done) | (simp; omega))).trans (by first | (simp; done) | go_simp)
        have X_10 : w1.cell? ⟨w.heap.size, 10, none⟩ = some (.slice a ps.length c) := (hc1.cell (p := ⟨w.heap.size, 10, none⟩) (by first | (simp; done) | (simp; omega))).trans (by first | (simp; done) | go_simp)
        have X_l : w.heap.size < w1.heap.size := Nat.lt_of_lt_of_le (by first | (simp; done) | (simp; omega)) hc1.size
        replace hc := hc.later hst1
        clear hst1
        clear hc1 hb0
        rw [H_hF.out]
        go_wp2_with fail
        refine (hsec _).mono ?_
        rintro e w' ⟨rfl, rfl⟩
        go_wp2_with fail
        go_loopw [3] (fun i wr => ∃ k : Nat, k ≤ ps.length ∧ i = .int .i64 k ∧ Hid (∀ j, j < k → vP (nm ps j, pu ps j) = true) ∧ Below w.heap.size w wr ∧ (CellsAt wr (some ⟨w.heap.size, 0, none⟩) [.int .i64 l0, .int .i64 l1, .int .i64 l2, .int .i64 l3, .int .i64 l4, .int .i64 l5, .int .i64 l6, .int .i64 l7, .int .i64 l8, .int .u32 s, .slice a ps.length c])) (fun i _ => ps.length - (intOf i).toNat)
        case atStart => exact ⟨0, Nat.zero_le _, rfl, hid (fun j hj => absurd hj (Nat.not_lt_zero _)), (by repeat' (first | with_reducible exact hb1 | with_reducible refine Below.drew ?_ | with_reducible refine below_drewN ?_ _ | with_reducible refine Below.alloc ?_ (by have := hb1.size; first | (simp; done) | (simp; omega) | omega) _ | with_reducible refine Below.setCell ?_ (by first | (simp; done) | (simp; omega) | omega) _)), cells11 X_0 X_1 X_2 X_3 X_4 X_5 X_6 X_7 X_8 X_9 X_10⟩
        case round =>
          clear hc X_0 X_1 X_2 X_3 X_4 X_5 X_6 X_7 X_8 X_9 X_10 X_l
          obtain ⟨k, hkl, rfl, hpre, hbw, hX⟩ := hrel
          have X_10 := cells11_at (j := 10) hX rfl
          by_cases hlt : k < ps.length
          · have hlt' : (k : Int) < (ps.length : Int) := by omega
            obtain ⟨b, oo, rfl, g1, g2, hcell⟩ := Hc0.out.peers (by omega)
            obtain ⟨c0, c1⟩ := hcell k hlt
            replace c0 := cell_later hbw c0
            replace c1 := cell_later hbw c1
            have hkk := H_hk.out k hlt
            clear hcell
            obtain ⟨r, hr⟩ : ∃ r, vP (nm ps k, pu ps k) = r := ⟨_, rfl⟩
            have hcall : ∀ W, Calls Tryd.prog 42 #[.agg #[.string (nm ps k), .int .u32 (pu ps k)]] W fun e w' => e = .returned (.bool r) ∧ Below W.heap.size W w' := fun W => hr ▸ rvalid_any (nm ps k) (pu ps k) W hkk.1 hkk.2
            clear hkk
            cases r with
            | false =>
              have hany := any_at hlt hr
              have H_hr := Box.mk hr
              have H_hany := Box.mk hany
              clear hr hany
              go_wp2_with fail
              with_reducible refine (hcall _).mono ?_
              rintro e w11 ⟨rfl, hc11⟩
              have hb11 : Below w.heap.size w w11 := bchain (by repeat' (first | with_reducible exact hbw | with_reducible refine Below.drew ?_ | with_reducible refine below_drewN ?_ _ | with_reducible refine Below.alloc ?_ (by have := hbw.size; first | (simp; done) | (simp; omega) | omega) _ | with_reducible refine Below.setCell ?_ (by first | (simp; done) | (simp; omega) | omega) _)) hc11
              clear hc11 hbw
              go_wp2_with fail
              go_ret
              exact ⟨ret_int (H_r4.out H_hany.out).symm, (by repeat' (first | with_reducible exact hb11 | with_reducible refine Below.drew ?_ | with_reducible refine below_drewN ?_ _ | with_reducible refine Below.alloc ?_ (by have := hb11.size; first | (simp; done) | (simp; omega) | omega) _ | with_reducible refine Below.setCell ?_ (by first | (simp; done) | (simp; omega) | omega) _))⟩
            | true =>
              have H_hr := Box.mk hr
              clear hr
              go_wp2_with fail
              with_reducible refine (hcall _).mono ?_
              rintro e w11 ⟨rfl, hc11⟩
              have hb11 : Below w.heap.size w w11 := bchain (by repeat' (first | with_reducible exact hbw | with_reducible refine Below.drew ?_ | with_reducible refine below_drewN ?_ _ | with_reducible refine Below.alloc ?_ (by have := hbw.size; first | (simp; done) | (simp; omega) | omega) _ | with_reducible refine Below.setCell ?_ (by first | (simp; done) | (simp; omega) | omega) _)) hc11
              have hst11 : Below wr.heap.size wr w11 := bchain (by repeat' (first | with_reducible exact Below.refl _ _ | with_reducible refine Below.drew ?_ | with_reducible refine below_drewN ?_ _ | with_reducible refine Below.alloc ?_ (by first | (simp; done) | (simp; omega) | omega) _ | with_reducible refine Below.setCell ?_ (by first | (simp; done) | (simp; omega) | omega) _)) hc11
              replace hX := hX.later hst11
              clear hst11
              clear hc11 hbw
              go_wp2_with fail
              go_roundw
              case rel => exact ⟨k + 1, by omega, by go_num, hid (fun j hj => by
                by_cases hjk : j < k
                · exact hpre.out j hjk
                · obtain rfl : j = k := by omega
                  exact H_hr.out), (by repeat' (first | with_reducible exact hb11 | with_reducible refine Below.drew ?_ | with_reducible refine below_drewN ?_ _ | with_reducible refine Below.alloc ?_ (by have := hb11.size; first | (simp; done) | (simp; omega) | omega) _ | with_reducible refine Below.setCell ?_ (by first | (simp; done) | (simp; omega) | omega) _)), hX⟩
              case measure => simp [intOf]; omega
          · obtain rfl : k = ps.length := by omega
            have hany := any_none hpre.out
            have H_hany := Box.mk hany
            clear hany
            clear hpre hlt
            go_wp2_with fail
            clear X_10
            go_loopw [4] (fun i wr => ∃ k : Nat, 1 ≤ k ∧ k ≤ ps.length + 1 ∧ i = .int .i64 k ∧ Hid (∀ j, 0 < j → j < k → j < ps.length → sltB (nm ps (j - 1)) (nm ps j) = true) ∧ Below w.heap.size w wr ∧ (CellsAt wr (some ⟨w.heap.size, 0, none⟩) [.int .i64 l0, .int .i64 l1, .int .i64 l2, .int .i64 l3, .int .i64 l4, .int .i64 l5, .int .i64 l6, .int .i64 l7, .int .i64 l8, .int .u32 s, .slice a ps.length c])) (fun i _ => ps.length - (intOf i).toNat)
            case atStart => exact ⟨1, by omega, by omega, rfl, hid (fun j h0 hj => absurd hj (by omega)), hbw, hX⟩
            case round =>
              clear hbw hX
              obtain ⟨k, hk1, hkl, rfl, hpre, hbw, hX⟩ := hrel
              have X_10 := cells11_at (j := 10) hX rfl
              by_cases hlt : k < ps.length
              · have hlt' : (k : Int) < (ps.length : Int) := by omega
                obtain ⟨b, oo, rfl, g1, g2, hcell⟩ := Hc0.out.peers (by omega)
                obtain ⟨m, rfl⟩ : ∃ m, k = m + 1 := ⟨k - 1, by omega⟩
                have c0 := cell_later hbw (hcell m (by omega)).1
                have c1 := cell_later hbw (hcell (m + 1) hlt).1
                clear hcell
                have e1 : ((m + 1 : Nat) : Int) - 1 = m := by omega
                have e2 : (m : Int) < (ps.length : Int) := by omega
                cases hlt2 : sltB (nm ps m) (nm ps (m + 1)) with
                | true =>
                  have e3 : Op.bytesLess (nm ps (m + 1)).toList (nm ps m).toList = false := sltB_asymm hlt2
                  have e4 : ((nm ps (m + 1)).toList == (nm ps m).toList) = false := by
                    cases h : ((nm ps (m + 1)).toList == (nm ps m).toList)
                    · rfl
                    · have := seqB_iff.1 h
                      rw [this, sltB_irr] at hlt2; cases hlt2
                  have H_hlt2 := Box.mk hlt2
                  clear hlt2
                  go_wp2_with fail
                  go_quiet (fail)
                  go_wp2_with fail
                  go_roundw
                  case rel => exact ⟨m + 1 + 1, by omega, by omega, by go_num, hid (fun j h0 hj hj2 => by
                    by_cases hjk : j < m + 1
                    · exact hpre.out j h0 hjk hj2
                    · obtain rfl : j = m + 1 := by omega
                      exact H_hlt2.out), (by repeat' (first | with_reducible exact hbw | with_reducible refine Below.drew ?_ | with_reducible refine below_drewN ?_ _ | with_reducible refine Below.alloc ?_ (by have := hbw.size; first | (simp; done) | (simp; omega) | omega) _ | with_reducible refine Below.setCell ?_ (by first | (simp; done) | (simp; omega) | omega) _)), by first | exact hX | exact hX.drew | exact hX.drewN _⟩
                  case measure => simp [intOf]; omega
                | false =>
                  have hno := incB_no hlt (by omega) hlt2
                  have hRR := H_r5.out H_hany.out hno
                  cases e4 : ((nm ps (m + 1)).toList == (nm ps m).toList) with
                  | true =>
                    have H_hno := Box.mk hno
                    have H_hlt2 := Box.mk hlt2
                    have H_hRR := Box.mk hRR
                    clear hno hlt2 hRR
                    go_wp2_with fail
                    go_quiet (fail)
                    go_wp2_with fail
                    go_ret
                    exact ⟨ret_int H_hRR.out.symm, (by repeat' (first | with_reducible exact hbw | with_reducible refine Below.drew ?_ | with_reducible refine below_drewN ?_ _ | with_reducible refine Below.alloc ?_ (by have := hbw.size; first | (simp; done) | (simp; omega) | omega) _ | with_reducible refine Below.setCell ?_ (by first | (simp; done) | (simp; omega) | omega) _))⟩
                  | false =>
                    have e3 : Op.bytesLess (nm ps (m + 1)).toList (nm ps m).toList = true := sltB_tot hlt2 (by
                      cases h : seqB (nm ps m) (nm ps (m + 1))
                      · rfl
                      · rw [seqB_iff.1 h] at e4; simp at e4)
                    have H_hno := Box.mk hno
                    have H_hlt2 := Box.mk hlt2
                    have H_hRR := Box.mk hRR
                    clear hno hlt2 hRR
                    go_wp2_with fail
                    go_quiet (fail)
                    go_wp2_with fail
                    go_ret
                    exact ⟨ret_int H_hRR.out.symm, (by repeat' (first | with_reducible exact hbw | with_reducible refine Below.drew ?_ | with_reducible refine below_drewN ?_ _ | with_reducible refine Below.alloc ?_ (by have := hbw.size; first | (simp; done) | (simp; omega) | omega) _ | with_reducible refine Below.setCell ?_ (by first | (simp; done) | (simp; omega) | omega) _))⟩
              · have hinc := incB_all fun j h0 hj => hpre.out j h0 (by omega) hj
                have r6 := hid (H_r6.out H_hany.out hinc)
                have r7 := hid (H_r7.out H_hany.out hinc)
                have H_hinc := Box.mk hinc
                clear hinc
                clear hpre
                go_wp2_with fail
                clear X_10
                go_loopw [5] (fun i wr => ∃ k : Nat, k ≤ ps.length ∧ i = .int .i64 k ∧ Hid (∀ j, j < k → dupB (pubK s) ps j = false) ∧ Below w.heap.size w wr ∧ (CellsAt wr (some ⟨w.heap.size, 0, none⟩) [.int .i64 l0, .int .i64 l1, .int .i64 l2, .int .i64 l3, .int .i64 l4, .int .i64 l5, .int .i64 l6, .int .i64 l7, .int .i64 l8, .int .u32 s, .slice a ps.length c])) (fun i _ => ps.length - (intOf i).toNat)
                case atStart => exact ⟨0, by omega, rfl, hid (fun j hj => absurd hj (by omega)), hbw, hX⟩
                case round =>
                  clear hbw hX hlt hk1 hkl
                  obtain ⟨k, hkl, rfl, hpre, hbw, hX⟩ := hrel
                  have X_10 := cells11_at (j := 10) hX rfl
                  by_cases hlt : k < ps.length
                  · have hlt' : (k : Int) < (ps.length : Int) := by omega
                    obtain ⟨b, oo, rfl, g1, g2, hcell⟩ := Hc0.out.peers (by omega)
                    have c1 := cell_later hbw (hcell k hlt).2
                    have hwd := who_dup (pubK s) ps k hlt
                    have hc := Hc0.out.later hbw
                    clear hcell
                    have X_0 := cells11_at (j := 0) hX rfl
                    have X_1 := cells11_at (j := 1) hX rfl
                    have X_2 := cells11_at (j := 2) hX rfl
                    have X_3 := cells11_at (j := 3) hX rfl
                    have X_4 := cells11_at (j := 4) hX rfl
                    have X_5 := cells11_at (j := 5) hX rfl
                    have X_6 := cells11_at (j := 6) hX rfl
                    have X_7 := cells11_at (j := 7) hX rfl
                    have X_8 := cells11_at (j := 8) hX rfl
                    have X_9 := cells11_at (j := 9) hX rfl
                    have X_l : w.heap.size < wr.heap.size := World.block_lt_of_cell? _ _ X_10
                    obtain ⟨z, hz⟩ : ∃ z, whoN (pubK s) ps (pu ps k) = z := ⟨_, rfl⟩
                    have hcall := hz ▸ H_hwho.out (pu ps k)
                    rw [hz] at hwd
                    clear hz
                    cases hd : dupB (pubK s) ps k with
                    | true =>
                      have hzk : z < (k : Int) := by rw [hd, decide_eq_true_eq] at hwd; exact hwd
                      have hRR := r6.out (distB_no hlt hd)
                      have H_hd := Box.mk hd
                      have H_hRR := Box.mk hRR
                      have H_hwd := Box.mk hwd
                      have H_hcall := Box.mk hcall
                      clear hd hRR hwd hcall
                      go_wp2_with fail
                      refine wp_gen fun w31 hc31 => ?_
                      have hb31 : Below w.heap.size w w31 := bchain (by repeat' (first | with_reducible exact hbw | with_reducible refine Below.drew ?_ | with_reducible refine below_drewN ?_ _ | with_reducible refine Below.alloc ?_ (by have := hbw.size; first | (simp; done) | (simp; omega) | omega) _ | with_reducible refine Below.setCell ?_ (by first | (simp; done) | (simp; omega) | omega) _)) hc31
                      have hst31 : Below wr.heap.size wr w31 := bchain (by repeat' (first | with_reducible exact Below.refl _ _ | with_reducible refine Below.drew ?_ | with_reducible refine below_drewN ?_ _ | with_reducible refine Below.alloc ?_ (by first | (simp; done) | (simp; omega) | omega) _ | with_reducible refine Below.setCell ?_ (by first | (simp; done) | (simp; omega) | omega) _)) hc31
                      replace X_0 := cell_later hst31 X_0
                      replace X_1 := cell_later hst31 X_1
                      replace X_2 := cell_later hst31 X_2
                      replace X_3 := cell_later hst31 X_3
                      replace X_4 := cell_later hst31 X_4
                      replace X_5 := cell_later hst31 X_5
                      replace X_6 := cell_later hst31 X_6
                      replace X_7 := cell_later hst31 X_7
                      replace X_8 := cell_later hst31 X_8
                      replace X_9 := cell_later hst31 X_9
                      replace X_10 := cell_later hst31 X_10
                      replace X_l := Nat.lt_of_lt_of_le X_l hst31.size
                      replace hc := hc.later hst31
                      clear hst31
                      have KX_0 := cell_on X_0
                      have KX_1 := cell_on X_1
                      have KX_2 := cell_on X_2
                      have KX_3 := cell_on X_3
                      have KX_4 := cell_on X_4
                      have KX_5 := cell_on X_5
                      have KX_6 := cell_on X_6
                      have KX_7 := cell_on X_7
                      have KX_8 := cell_on X_8
                      have KX_9 := cell_on X_9
                      have KX_10 := cell_on X_10
                      obtain ⟨_, _, hb', _, _, hcell⟩ := hc.peers (Nat.lt_of_le_of_lt (Nat.zero_le _) hlt)
                      cases hb'
                      have KY := cell_on (hcell k hlt).2
                      clear hcell c1
                      refine wp_region_on (by kernel_rfl) (by kernel_rfl) ?_
                      repeat (go_big_quiet_step ((first | (go_at_call 43; with_reducible exact calls_on (H_hcall.out _ (hc.on _))))))
                      refine wpQuiet_nil ?_
                      intro w32 hc32
                      clear KX_0 KX_1 KX_2 KX_3 KX_4 KX_5 KX_6 KX_7 KX_8 KX_9 KX_10
                      have hb32 : Below w.heap.size w w32 := bchain (by repeat' (first | with_reducible exact hb31 | with_reducible refine Below.drew ?_ | with_reducible refine below_drewN ?_ _ | with_reducible refine Below.alloc ?_ (by have := hb31.size; first | (simp; done) | (simp; omega) | omega) _ | with_reducible refine Below.setCell ?_ (by first | (simp; done) | (simp; omega) | omega) _)) hc32
                      have hst32 : Below w31.heap.size w31 w32 := bchain (by repeat' (first | with_reducible exact Below.refl _ _ | with_reducible refine Below.drew ?_ | with_reducible refine below_drewN ?_ _ | with_reducible refine Below.alloc ?_ (by first | (simp; done) | (simp; omega) | omega) _ | with_reducible refine Below.setCell ?_ (by first | (simp; done) | (simp; omega) | omega) _)) hc32
                      replace X_0 := cell_later hst32 X_0
                      replace X_1 := cell_later hst32 X_1
                      replace X_2 := cell_later hst32 X_2
                      replace X_3 := cell_later hst32 X_3
                      replace X_4 := cell_later hst32 X_4
                      replace X_5 := cell_later hst32 X_5
                      replace X_6 := cell_later hst32 X_6
                      replace X_7 := cell_later hst32 X_7
                      replace X_8 := cell_later hst32 X_8
                      replace X_9 := cell_later hst32 X_9
                      replace X_10 := cell_later hst32 X_10
                      replace X_l := Nat.lt_of_lt_of_le X_l hst32.size
                      replace hc := hc.later hst32
                      clear hst32
                      go_wp2_with fail
                      go_ret
                      exact ⟨ret_int H_hRR.out.symm, (by repeat' (first | with_reducible exact hb32 | with_reducible refine Below.drew ?_ | with_reducible refine below_drewN ?_ _ | with_reducible refine Below.alloc ?_ (by have := hb32.size; first | (simp; done) | (simp; omega) | omega) _ | with_reducible refine Below.setCell ?_ (by first | (simp; done) | (simp; omega) | omega) _))⟩
                    | false =>
                      have hzk : ¬ (z < (k : Int)) := by rw [hd, decide_eq_false_iff_not] at hwd; exact hwd
                      have H_hd := Box.mk hd
                      have H_hwd := Box.mk hwd
                      have H_hcall := Box.mk hcall
                      clear hd hwd hcall
                      go_wp2_with fail
                      refine wp_gen fun w31 hc31 => ?_
                      have hb31 : Below w.heap.size w w31 := bchain (by repeat' (first | with_reducible exact hbw | with_reducible refine Below.drew ?_ | with_reducible refine below_drewN ?_ _ | with_reducible refine Below.alloc ?_ (by have := hbw.size; first | (simp; done) | (simp; omega) | omega) _ | with_reducible refine Below.setCell ?_ (by first | (simp; done) | (simp; omega) | omega) _)) hc31
                      have hst31 : Below wr.heap.size wr w31 := bchain (by repeat' (first | with_reducible exact Below.refl _ _ | with_reducible refine Below.drew ?_ | with_reducible refine below_drewN ?_ _ | with_reducible refine Below.alloc ?_ (by first | (simp; done) | (simp; omega) | omega) _ | with_reducible refine Below.setCell ?_ (by first | (simp; done) | (simp; omega) | omega) _)) hc31
                      replace X_0 := cell_later hst31 X_0
                      replace X_1 := cell_later hst31 X_1
                      replace X_2 := cell_later hst31 X_2
                      replace X_3 := cell_later hst31 X_3
                      replace X_4 := cell_later hst31 X_4
                      replace X_5 := cell_later hst31 X_5
                      replace X_6 := cell_later hst31 X_6
                      replace X_7 := cell_later hst31 X_7
                      replace X_8 := cell_later hst31 X_8
                      replace X_9 := cell_later hst31 X_9
                      replace X_10 := cell_later hst31 X_10
                      replace X_l := Nat.lt_of_lt_of_le X_l hst31.size
                      replace hc := hc.later hst31
                      replace hX := hX.later hst31
                      clear hst31
                      have KX_0 := cell_on X_0
                      have KX_1 := cell_on X_1
                      have KX_2 := cell_on X_2
                      have KX_3 := cell_on X_3
                      have KX_4 := cell_on X_4
                      have KX_5 := cell_on X_5
                      have KX_6 := cell_on X_6
                      have KX_7 := cell_on X_7
                      have KX_8 := cell_on X_8
                      have KX_9 := cell_on X_9
                      have KX_10 := cell_on X_10
                      obtain ⟨_, _, hb', _, _, hcell⟩ := hc.peers (Nat.lt_of_le_of_lt (Nat.zero_le _) hlt)
                      cases hb'
                      have KY := cell_on (hcell k hlt).2
                      clear hcell c1
                      refine wp_region_on (by kernel_rfl) (by kernel_rfl) ?_
                      repeat (go_big_quiet_step ((first | (go_at_call 43; with_reducible exact calls_on (H_hcall.out _ (hc.on _))))))
                      refine wpQuiet_nil ?_
                      intro w32 hc32
                      clear KX_0 KX_1 KX_2 KX_3 KX_4 KX_5 KX_6 KX_7 KX_8 KX_9 KX_10
                      have hb32 : Below w.heap.size w w32 := bchain (by repeat' (first | with_reducible exact hb31 | with_reducible refine Below.drew ?_ | with_reducible refine below_drewN ?_ _ | with_reducible refine Below.alloc ?_ (by have := hb31.size; first | (simp; done) | (simp; omega) | omega) _ | with_reducible refine Below.setCell ?_ (by first | (simp; done) | (simp; omega) | omega) _)) hc32
                      have hst32 : Below w31.heap.size w31 w32 := bchain (by repeat' (first | with_reducible exact Below.refl _ _ | with_reducible refine Below.drew ?_ | with_reducible refine below_drewN ?_ _ | with_reducible refine Below.alloc ?_ (by first | (simp; done) | (simp; omega) | omega) _ | with_reducible refine Below.setCell ?_ (by first | (simp; done) | (simp; omega) | omega) _)) hc32
                      replace X_0 := cell_later hst32 X_0
                      replace X_1 := cell_later hst32 X_1
                      replace X_2 := cell_later hst32 X_2
                      replace X_3 := cell_later hst32 X_3
                      replace X_4 := cell_later hst32 X_4
                      replace X_5 := cell_later hst32 X_5
                      replace X_6 := cell_later hst32 X_6
                      replace X_7 := cell_later hst32 X_7
                      replace X_8 := cell_later hst32 X_8
                      replace X_9 := cell_later hst32 X_9
                      replace X_10 := cell_later hst32 X_10
                      replace X_l := Nat.lt_of_lt_of_le X_l hst32.size
                      replace hc := hc.later hst32
                      replace hX := hX.later hst32
                      clear hst32
                      go_wp2_with fail
                      go_roundw
                      case rel => exact ⟨k + 1, by omega, by go_num, hid (fun j hj => by
                        by_cases hjk : j < k
                        · exact hpre.out j hjk
                        · obtain rfl : j = k := by omega
                          exact H_hd.out), (by repeat' (first | with_reducible exact hb32 | with_reducible refine Below.drew ?_ | with_reducible refine below_drewN ?_ _ | with_reducible refine Below.alloc ?_ (by have := hb32.size; first | (simp; done) | (simp; omega) | omega) _ | with_reducible refine Below.setCell ?_ (by first | (simp; done) | (simp; omega) | omega) _)), by first | exact hX | exact hX.drew | exact hX.drewN _⟩
                      case measure => simp [intOf]; omega
                  · have hdis := distB_all fun j hj => hpre.out j (by omega)
                    have hRR := r7.out hdis
                    have H_hRR := Box.mk hRR
                    clear hRR
                    clear hpre
                    go_wp2_with fail
                    go_ret
                    exact ⟨ret_int H_hRR.out.symm, (by repeat' (first | with_reducible exact hbw | with_reducible refine Below.drew ?_ | with_reducible refine below_drewN ?_ _ | with_reducible refine Below.alloc ?_ (by have := hbw.size; first | (simp; done) | (simp; omega) | omega) _ | with_reducible refine Below.setCell ?_ (by first | (simp; done) | (simp; omega) | omega) _))⟩
