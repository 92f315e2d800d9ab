/- The law LockLeaves. -/
import Derived.Test.YtnkbbfeaodppgaaLockOpen
namespace Go.Proofs.Ytnkbbfeaodppgaa
set_option linter.unusedSimpArgs false
set_option linter.unusedVariables false
set_option linter.unnecessarySimpa false
open Go.RowKit

set_option maxRecDepth 100000 in
set_option maxHeartbeats 2000000 in
theorem rBoth_any (W t : Int) (rs : List Int) (q : Waits) (ra qa : Option Addr) (rn rc qn qc : Nat) (w : World) (h : LockIn w rs q ra qa rn qn) :
    Calls Try.prog 13 #[.agg #[.int .i64 W, .slice ra rn rc, .slice qa qn qc], .int .i64 t] w fun e w' =>
      e = .returned (.int .i64 (bothZ W rs q t)) ∧ Below w.heap.size w w' := by
  have hC := fun W' h => rCheck_any W rs q ra qa rn rc qn qc W' h
  rcases lockErr_cases W rs q with he | he
  · have hz : bothZ W rs q t = 8 := by unfold bothZ; rw [if_pos he]
    rw [he] at hC
    rw [hz]
    have H_h := Box.mk h
    have H_he := Box.mk he
    have H_hz := Box.mk hz
    have H_hC := Box.mk hC
    clear h he hz hC
    go_enter Try.func13, Try.ntmps13
    have hb0 := Below.refl w.heap.size w
    go_wp2_with fail
    with_reducible refine (H_hC.out _ (H_h.out.later (below_alloc _ _))).mono ?_
    rintro e w1 ⟨rfl, hc1⟩
    have hb1 : Below w.heap.size w w1 := bchain (by repeat' (first | with_reducible exact hb0 | with_reducible refine Below.drew ?_ | with_reducible refine below_drewN ?_ _ | with_reducible refine Below.alloc ?_ (by have := hb0.size; first | (simp; done) | (simp; omega) | omega) _ | with_reducible refine Below.setCell ?_ (by first | (simp; done) | (simp; omega) | omega) _)) hc1
    have O_0 : w1.cell? ⟨w.heap.size, 0, none⟩ = some (.int .i64 W) := (hc1.cell (p := ⟨w.heap.size, 0, none⟩) (by first | (simp; done) | (simp; omega))).trans (by first | (simp; done) | go_simp)
    have O_1 : w1.cell? ⟨w.heap.size, 1, none⟩ = some (.slice ra rn rc) := (hc1.cell (p := ⟨w.heap.size, 1, none⟩) (by first | (simp; done) | (simp; omega))).trans (by first | (simp; done) | go_simp)
    have O_2 : w1.cell? ⟨w.heap.size, 2, none⟩ = some (.slice qa qn qc) := (hc1.cell (p := ⟨w.heap.size, 2, none⟩) (by first | (simp; done) | (simp; omega))).trans (by first | (simp; done) | go_simp)
    have O_l : w.heap.size < w1.heap.size := Nat.lt_of_lt_of_le (by first | (simp; done) | (simp; omega)) hc1.size
    clear hc1 hb0
    go_wp2_with fail
    with_reducible refine (H_hC.out _ (H_h.out.later hb1)).mono ?_
    rintro e w2 ⟨rfl, hc2⟩
    have hb2 : Below w.heap.size w w2 := bchain (by repeat' (first | with_reducible exact hb1 | with_reducible refine Below.drew ?_ | with_reducible refine below_drewN ?_ _ | with_reducible refine Below.alloc ?_ (by have := hb1.size; first | (simp; done) | (simp; omega) | omega) _ | with_reducible refine Below.setCell ?_ (by first | (simp; done) | (simp; omega) | omega) _)) hc2
    have hst2 : Below w1.heap.size w1 w2 := bchain (by repeat' (first | with_reducible exact Below.refl _ _ | with_reducible refine Below.drew ?_ | with_reducible refine below_drewN ?_ _ | with_reducible refine Below.alloc ?_ (by first | (simp; done) | (simp; omega) | omega) _ | with_reducible refine Below.setCell ?_ (by first | (simp; done) | (simp; omega) | omega) _)) hc2
    replace O_0 := cell_later hst2 O_0
    replace O_1 := cell_later hst2 O_1
    replace O_2 := cell_later hst2 O_2
    replace O_l := Nat.lt_of_lt_of_le O_l hst2.size
    clear hst2
    clear hc2 hb1
    go_wp2_with fail
    go_ret
    exact ⟨rfl, by repeat' (first | with_reducible exact hb2 | with_reducible refine Below.drew ?_ | with_reducible refine below_drewN ?_ _ | with_reducible refine Below.alloc ?_ (by have := hb2.size; first | (simp; done) | (simp; omega) | omega) _ | with_reducible refine Below.setCell ?_ (by first | (simp; done) | (simp; omega) | omega) _)⟩
  · rw [he] at hC
    cases htb : taskB t with
    | true =>
      have hz : bothZ W rs q t = 0 := by unfold bothZ; rw [if_neg (by omega), if_pos htb]
      obtain ⟨h0, h1⟩ := taskB_iff.1 htb
      rw [hz]
      have H_h := Box.mk h
      have H_he := Box.mk he
      have H_hz := Box.mk hz
      have H_hC := Box.mk hC
      have H_htb := Box.mk htb
      clear h he hz hC htb
      go_enter Try.func13, Try.ntmps13
      have hb0 := Below.refl w.heap.size w
      go_wp2_with fail
      with_reducible refine (H_hC.out _ (H_h.out.later (below_alloc _ _))).mono ?_
      rintro e w1 ⟨rfl, hc1⟩
      have hb1 : Below w.heap.size w w1 := bchain (by repeat' (first | with_reducible exact hb0 | with_reducible refine Below.drew ?_ | with_reducible refine below_drewN ?_ _ | with_reducible refine Below.alloc ?_ (by have := hb0.size; first | (simp; done) | (simp; omega) | omega) _ | with_reducible refine Below.setCell ?_ (by first | (simp; done) | (simp; omega) | omega) _)) hc1
      have O_0 : w1.cell? ⟨w.heap.size, 0, none⟩ = some (.int .i64 W) := (hc1.cell (p := ⟨w.heap.size, 0, none⟩) (by first | (simp; done) | (simp; omega))).trans (by first | (simp; done) | go_simp)
      have O_1 : w1.cell? ⟨w.heap.size, 1, none⟩ = some (.slice ra rn rc) := (hc1.cell (p := ⟨w.heap.size, 1, none⟩) (by first | (simp; done) | (simp; omega))).trans (by first | (simp; done) | go_simp)
      have O_2 : w1.cell? ⟨w.heap.size, 2, none⟩ = some (.slice qa qn qc) := (hc1.cell (p := ⟨w.heap.size, 2, none⟩) (by first | (simp; done) | (simp; omega))).trans (by first | (simp; done) | go_simp)
      have O_l : w.heap.size < w1.heap.size := Nat.lt_of_lt_of_le (by first | (simp; done) | (simp; omega)) hc1.size
      clear hc1 hb0
      go_wp2_with fail
      go_ret
      exact ⟨rfl, by repeat' (first | with_reducible exact hb1 | with_reducible refine Below.drew ?_ | with_reducible refine below_drewN ?_ _ | with_reducible refine Below.alloc ?_ (by have := hb1.size; first | (simp; done) | (simp; omega) | omega) _ | with_reducible refine Below.setCell ?_ (by first | (simp; done) | (simp; omega) | omega) _)⟩
    | false =>
      have hz : bothZ W rs q t = 2 := by unfold bothZ; rw [if_neg (by omega), if_neg (by rw [htb]; decide)]
      rw [hz]
      by_cases h0 : t < 0
      · skip
        have H_h := Box.mk h
        have H_he := Box.mk he
        have H_hz := Box.mk hz
        have H_hC := Box.mk hC
        have H_htb := Box.mk htb
        clear h he hz hC htb
        go_enter Try.func13, Try.ntmps13
        have hb0 := Below.refl w.heap.size w
        go_wp2_with fail
        with_reducible refine (H_hC.out _ (H_h.out.later (below_alloc _ _))).mono ?_
        rintro e w1 ⟨rfl, hc1⟩
        have hb1 : Below w.heap.size w w1 := bchain (by repeat' (first | with_reducible exact hb0 | with_reducible refine Below.drew ?_ | with_reducible refine below_drewN ?_ _ | with_reducible refine Below.alloc ?_ (by have := hb0.size; first | (simp; done) | (simp; omega) | omega) _ | with_reducible refine Below.setCell ?_ (by first | (simp; done) | (simp; omega) | omega) _)) hc1
        have O_0 : w1.cell? ⟨w.heap.size, 0, none⟩ = some (.int .i64 W) := (hc1.cell (p := ⟨w.heap.size, 0, none⟩) (by first | (simp; done) | (simp; omega))).trans (by first | (simp; done) | go_simp)
        have O_1 : w1.cell? ⟨w.heap.size, 1, none⟩ = some (.slice ra rn rc) := (hc1.cell (p := ⟨w.heap.size, 1, none⟩) (by first | (simp; done) | (simp; omega))).trans (by first | (simp; done) | go_simp)
        have O_2 : w1.cell? ⟨w.heap.size, 2, none⟩ = some (.slice qa qn qc) := (hc1.cell (p := ⟨w.heap.size, 2, none⟩) (by first | (simp; done) | (simp; omega))).trans (by first | (simp; done) | go_simp)
        have O_l : w.heap.size < w1.heap.size := Nat.lt_of_lt_of_le (by first | (simp; done) | (simp; omega)) hc1.size
        clear hc1 hb0
        go_wp2_with fail
        go_ret
        exact ⟨rfl, by repeat' (first | with_reducible exact hb1 | with_reducible refine Below.drew ?_ | with_reducible refine below_drewN ?_ _ | with_reducible refine Below.alloc ?_ (by have := hb1.size; first | (simp; done) | (simp; omega) | omega) _ | with_reducible refine Below.setCell ?_ (by first | (simp; done) | (simp; omega) | omega) _)⟩
      · have h1 : 12 ≤ t := by
          by_cases h2 : t < 12
          · rw [taskB_iff.2 ⟨by omega, h2⟩] at htb; cases htb
          · omega
        have h0' : 0 ≤ t := by omega
        have H_h := Box.mk h
        have H_he := Box.mk he
        have H_hz := Box.mk hz
        have H_hC := Box.mk hC
        have H_htb := Box.mk htb
        clear h he hz hC htb
        go_enter Try.func13, Try.ntmps13
        have hb0 := Below.refl w.heap.size w
        go_wp2_with fail
        with_reducible refine (H_hC.out _ (H_h.out.later (below_alloc _ _))).mono ?_
        rintro e w1 ⟨rfl, hc1⟩
        have hb1 : Below w.heap.size w w1 := bchain (by repeat' (first | with_reducible exact hb0 | with_reducible refine Below.drew ?_ | with_reducible refine below_drewN ?_ _ | with_reducible refine Below.alloc ?_ (by have := hb0.size; first | (simp; done) | (simp; omega) | omega) _ | with_reducible refine Below.setCell ?_ (by first | (simp; done) | (simp; omega) | omega) _)) hc1
        have O_0 : w1.cell? ⟨w.heap.size, 0, none⟩ = some (.int .i64 W) := (hc1.cell (p := ⟨w.heap.size, 0, none⟩) (by first | (simp; done) | (simp; omega))).trans (by first | (simp; done) | go_simp)
        have O_1 : w1.cell? ⟨w.heap.size, 1, none⟩ = some (.slice ra rn rc) := (hc1.cell (p := ⟨w.heap.size, 1, none⟩) (by first | (simp; done) | (simp; omega))).trans (by first | (simp; done) | go_simp)
        have O_2 : w1.cell? ⟨w.heap.size, 2, none⟩ = some (.slice qa qn qc) := (hc1.cell (p := ⟨w.heap.size, 2, none⟩) (by first | (simp; done) | (simp; omega))).trans (by first | (simp; done) | go_simp)
        have O_l : w.heap.size < w1.heap.size := Nat.lt_of_lt_of_le (by first | (simp; done) | (simp; omega)) hc1.size
        clear hc1 hb0
        go_wp2_with fail
        go_ret
        exact ⟨rfl, by repeat' (first | with_reducible exact hb1 | with_reducible refine Below.drew ?_ | with_reducible refine below_drewN ?_ _ | with_reducible refine Below.alloc ?_ (by have := hb1.size; first | (simp; done) | (simp; omega) | omega) _ | with_reducible refine Below.setCell ?_ (by first | (simp; done) | (simp; omega) | omega) _)⟩

set_option maxRecDepth 100000 in
set_option maxHeartbeats 4000000 in
theorem leaves_walk (W : Int) (rs : List Int) (q : Waits) (ra : Option Addr) (rn rc : Nat) (qa : Option Addr) (qn qc : Nat) (t : Int) (b : Bool) (w : World) (h0 : LkIn w rs q ra rn qa qn) :
    Calls Try.prog 4 #[.agg #[.int .i64 W, .slice ra rn rc, .slice qa qn qc], .int .i64 t, .bool b] w fun e w' =>
      e = .returned (.bool true) ∧ Below w.heap.size w w' := by
  cases hg : greatB rn qn with
  | true =>
    have H_h0 := Box.mk h0
    have H_hg := Box.mk hg
    clear h0 hg
    go_enter Try.func4, Try.ntmps4
    have hb0 := Below.refl w.heap.size w
    go_wp2_with fail
    with_reducible refine (alive_any _).mono ?_
    rintro e w1 ⟨rfl, hc1⟩
    have hb1 : Below w.heap.size w w1 := bchain (by repeat' (first | with_reducible exact hb0 | with_reducible refine Below.drew ?_ | with_reducible refine below_drewN ?_ _ | with_reducible refine Below.alloc ?_ (by have := hb0.size; first | (simp; done) | (simp; omega) | omega) _ | with_reducible refine Below.setCell ?_ (by first | (simp; done) | (simp; omega) | omega) _)) hc1
    have O_0 : w1.cell? ⟨w.heap.size, 0, none⟩ = some (.int .i64 W) := (hc1.cell (p := ⟨w.heap.size, 0, none⟩) (by first | (simp; done) | (simp; omega))).trans (by first | (simp; done) | go_simp)
    have O_1 : w1.cell? ⟨w.heap.size, 1, none⟩ = some (.slice ra rn rc) := (hc1.cell (p := ⟨w.heap.size, 1, none⟩) (by first | (simp; done) | (simp; omega))).trans (by first | (simp; done) | go_simp)
    have O_2 : w1.cell? ⟨w.heap.size, 2, none⟩ = some (.slice qa qn qc) := (hc1.cell (p := ⟨w.heap.size, 2, none⟩) (by first | (simp; done) | (simp; omega))).trans (by first | (simp; done) | go_simp)
    have O_l : w.heap.size < w1.heap.size := Nat.lt_of_lt_of_le (by first | (simp; done) | (simp; omega)) hc1.size
    clear hc1 hb0
    go_wp2_with fail
    with_reducible refine (great_any W ra qa rn rc qn qc _).mono ?_
    rintro e w2 ⟨rfl, hc2⟩
    have hb2 : Below w.heap.size w w2 := bchain (by repeat' (first | with_reducible exact hb1 | with_reducible refine Below.drew ?_ | with_reducible refine below_drewN ?_ _ | with_reducible refine Below.alloc ?_ (by have := hb1.size; first | (simp; done) | (simp; omega) | omega) _ | with_reducible refine Below.setCell ?_ (by first | (simp; done) | (simp; omega) | omega) _)) hc2
    have hst2 : Below w1.heap.size w1 w2 := bchain (by repeat' (first | with_reducible exact Below.refl _ _ | with_reducible refine Below.drew ?_ | with_reducible refine below_drewN ?_ _ | with_reducible refine Below.alloc ?_ (by first | (simp; done) | (simp; omega) | omega) _ | with_reducible refine Below.setCell ?_ (by first | (simp; done) | (simp; omega) | omega) _)) hc2
    replace O_0 := cell_later hst2 O_0
    replace O_1 := cell_later hst2 O_1
    replace O_2 := cell_later hst2 O_2
    replace O_l := Nat.lt_of_lt_of_le O_l hst2.size
    clear hst2
    clear hc2 hb1
    rw [H_hg.out]
    go_wp2_with fail
    go_ret
    exact ⟨rfl, by repeat' (first | with_reducible exact hb2 | with_reducible refine Below.drew ?_ | with_reducible refine below_drewN ?_ _ | with_reducible refine Below.alloc ?_ (by have := hb2.size; first | (simp; done) | (simp; omega) | omega) _ | with_reducible refine Below.setCell ?_ (by first | (simp; done) | (simp; omega) | omega) _)⟩
  | false =>
    have hlim : rn ≤ 100 ∧ qn ≤ 100 := by unfold greatB at hg; simp at hg; exact hg
    obtain ⟨hl1, hl2⟩ := hlim
    have h := h0.lock hl1 hl2
    have hB := fun W' h => rBoth_any W t rs q ra qa rn rc qn qc W' h
    have hH := fun W' h => rhas_any W t rs q ra qa rn rc qn qc W' h
    obtain ⟨z, hz⟩ : ∃ z, bothZ W rs q t = z := ⟨_, rfl⟩
    obtain ⟨y, hy⟩ : ∃ y, hasZ W rs q t = y := ⟨_, rfl⟩
    rw [hz] at hB
    rw [hy] at hH
    by_cases hz0 : z = 0
    · subst hz0
      by_cases hy0 : y = 0
      · subst hy0
        obtain ⟨hv, ht⟩ := both_LV hz
        obtain ⟨W', rs', q', got, ha, hv', hr1, hq1, hyes, hno⟩ := ask_back (b := b) hv ht hy
        have hrl := h.rlen
        have hql := h.qlen
        obtain ⟨n1, hn1⟩ : ∃ n1, n1 = rs'.length := ⟨_, rfl⟩
        obtain ⟨n2, hn2⟩ : ∃ n2, n2 = q'.length := ⟨_, rfl⟩
        have hs : n1 + n2 ≤ 999999 := by omega
        have hA := fun w h => ask_r W t b rs q W' rs' q' got 0 ra qa rn rc qn qc n1 n2 w h (by omega) ha hn1 hn2
        cases got with
        | true =>
          obtain ⟨hq0, hf⟩ := hyes rfl
          have hqn0 : qn = 0 := by rw [hql, hq0]; rfl
          have hF := fun a1 c1 a2 c2 w h => free_r W' t rs' q' W rs q [] 0 a1 a2 n1 c1 n2 c2 rn qn 0 w h (by omega) hf hrl hql rfl
          subst hqn0
          have H_h0 := Box.mk h0
          have H_hg := Box.mk hg
          have H_h := Box.mk h
          have H_hB := Box.mk hB
          have H_hH := Box.mk hH
          have H_hz := Box.mk hz
          have H_hy := Box.mk hy
          have H_hv := Box.mk hv
          have H_ht := Box.mk ht
          have H_ha := Box.mk ha
          have H_hv' := Box.mk hv'
          have H_hr1 := Box.mk hr1
          have H_hq1 := Box.mk hq1
          have H_hyes := Box.mk hyes
          have H_hno := Box.mk hno
          have H_hrl := Box.mk hrl
          have H_hql := Box.mk hql
          have H_hn1 := Box.mk hn1
          have H_hn2 := Box.mk hn2
          have H_hA := Box.mk hA
          have H_hF := Box.mk hF
          have H_hf := Box.mk hf
          have H_hq0 := Box.mk hq0
          clear h0 hg h hB hH hz hy hv ht ha hv' hr1 hq1 hyes hno hrl hql hn1 hn2 hA hF hf hq0
          go_enter Try.func4, Try.ntmps4
          have hb0 := Below.refl w.heap.size w
          go_wp2_with fail
          with_reducible refine (alive_any _).mono ?_
          rintro e w1 ⟨rfl, hc1⟩
          have hb1 : Below w.heap.size w w1 := bchain (by repeat' (first | with_reducible exact hb0 | with_reducible refine Below.drew ?_ | with_reducible refine below_drewN ?_ _ | with_reducible refine Below.alloc ?_ (by have := hb0.size; first | (simp; done) | (simp; omega) | omega) _ | with_reducible refine Below.setCell ?_ (by first | (simp; done) | (simp; omega) | omega) _)) hc1
          have O_0 : w1.cell? ⟨w.heap.size, 0, none⟩ = some (.int .i64 W) := (hc1.cell (p := ⟨w.heap.size, 0, none⟩) (by first | (simp; done) | (simp; omega))).trans (by first | (simp; done) | go_simp)
          have O_1 : w1.cell? ⟨w.heap.size, 1, none⟩ = some (.slice ra rn rc) := (hc1.cell (p := ⟨w.heap.size, 1, none⟩) (by first | (simp; done) | (simp; omega))).trans (by first | (simp; done) | go_simp)
          have O_2 : w1.cell? ⟨w.heap.size, 2, none⟩ = some (.slice qa 0 qc) := (hc1.cell (p := ⟨w.heap.size, 2, none⟩) (by first | (simp; done) | (simp; omega))).trans (by first | (simp; done) | go_simp)
          have O_l : w.heap.size < w1.heap.size := Nat.lt_of_lt_of_le (by first | (simp; done) | (simp; omega)) hc1.size
          clear hc1 hb0
          go_wp2_with fail
          with_reducible refine (great_any W ra qa rn rc 0 qc _).mono ?_
          rintro e w2 ⟨rfl, hc2⟩
          have hb2 : Below w.heap.size w w2 := bchain (by repeat' (first | with_reducible exact hb1 | with_reducible refine Below.drew ?_ | with_reducible refine below_drewN ?_ _ | with_reducible refine Below.alloc ?_ (by have := hb1.size; first | (simp; done) | (simp; omega) | omega) _ | with_reducible refine Below.setCell ?_ (by first | (simp; done) | (simp; omega) | omega) _)) hc2
          have hst2 : Below w1.heap.size w1 w2 := bchain (by repeat' (first | with_reducible exact Below.refl _ _ | with_reducible refine Below.drew ?_ | with_reducible refine below_drewN ?_ _ | with_reducible refine Below.alloc ?_ (by first | (simp; done) | (simp; omega) | omega) _ | with_reducible refine Below.setCell ?_ (by first | (simp; done) | (simp; omega) | omega) _)) hc2
          replace O_0 := cell_later hst2 O_0
          replace O_1 := cell_later hst2 O_1
          replace O_2 := cell_later hst2 O_2
          replace O_l := Nat.lt_of_lt_of_le O_l hst2.size
          clear hst2
          clear hc2 hb1
          rw [H_hg.out]
          go_wp2_with fail
          with_reducible refine (H_hB.out _ (H_h.out.later hb2)).mono ?_
          rintro e w3 ⟨rfl, hc3⟩
          have hb3 : Below w.heap.size w w3 := bchain (by repeat' (first | with_reducible exact hb2 | with_reducible refine Below.drew ?_ | with_reducible refine below_drewN ?_ _ | with_reducible refine Below.alloc ?_ (by have := hb2.size; first | (simp; done) | (simp; omega) | omega) _ | with_reducible refine Below.setCell ?_ (by first | (simp; done) | (simp; omega) | omega) _)) hc3
          have hst3 : Below w2.heap.size w2 w3 := bchain (by repeat' (first | with_reducible exact Below.refl _ _ | with_reducible refine Below.drew ?_ | with_reducible refine below_drewN ?_ _ | with_reducible refine Below.alloc ?_ (by first | (simp; done) | (simp; omega) | omega) _ | with_reducible refine Below.setCell ?_ (by first | (simp; done) | (simp; omega) | omega) _)) hc3
          replace O_0 := cell_later hst3 O_0
          replace O_1 := cell_later hst3 O_1
          replace O_2 := cell_later hst3 O_2
          replace O_l := Nat.lt_of_lt_of_le O_l hst3.size
          clear hst3
          clear hc3 hb2
          go_wp2_with fail
          with_reducible refine (H_hH.out _ (H_h.out.later hb3)).mono ?_
          rintro e w4 ⟨rfl, hc4⟩
          have hb4 : Below w.heap.size w w4 := bchain (by repeat' (first | with_reducible exact hb3 | with_reducible refine Below.drew ?_ | with_reducible refine below_drewN ?_ _ | with_reducible refine Below.alloc ?_ (by have := hb3.size; first | (simp; done) | (simp; omega) | omega) _ | with_reducible refine Below.setCell ?_ (by first | (simp; done) | (simp; omega) | omega) _)) hc4
          have hst4 : Below w3.heap.size w3 w4 := bchain (by repeat' (first | with_reducible exact Below.refl _ _ | with_reducible refine Below.drew ?_ | with_reducible refine below_drewN ?_ _ | with_reducible refine Below.alloc ?_ (by first | (simp; done) | (simp; omega) | omega) _ | with_reducible refine Below.setCell ?_ (by first | (simp; done) | (simp; omega) | omega) _)) hc4
          replace O_0 := cell_later hst4 O_0
          replace O_1 := cell_later hst4 O_1
          replace O_2 := cell_later hst4 O_2
          replace O_l := Nat.lt_of_lt_of_le O_l hst4.size
          clear hst4
          clear hc4 hb3
          go_wp2_with fail
          with_reducible refine (H_hA.out _ (H_h.out.later hb4)).mono ?_
          rintro e w5 ⟨a1, c1, a2, c2, rfl, l1, hc5⟩
          have hb5 : Below w.heap.size w w5 := bchain (by repeat' (first | with_reducible exact hb4 | with_reducible refine Below.drew ?_ | with_reducible refine below_drewN ?_ _ | with_reducible refine Below.alloc ?_ (by have := hb4.size; first | (simp; done) | (simp; omega) | omega) _ | with_reducible refine Below.setCell ?_ (by first | (simp; done) | (simp; omega) | omega) _)) hc5
          have hst5 : Below w4.heap.size w4 w5 := bchain (by repeat' (first | with_reducible exact Below.refl _ _ | with_reducible refine Below.drew ?_ | with_reducible refine below_drewN ?_ _ | with_reducible refine Below.alloc ?_ (by first | (simp; done) | (simp; omega) | omega) _ | with_reducible refine Below.setCell ?_ (by first | (simp; done) | (simp; omega) | omega) _)) hc5
          replace O_0 := cell_later hst5 O_0
          replace O_1 := cell_later hst5 O_1
          replace O_2 := cell_later hst5 O_2
          replace O_l := Nat.lt_of_lt_of_le O_l hst5.size
          clear hst5
          clear hc5 hb4
          go_wp2_with fail
          with_reducible refine (H_hF.out a1 c1 a2 c2 _ (l1.later (below_alloc _ _))).mono ?_
          rintro e w6 ⟨b1, d1, b2, d2, b3, d3, rfl, l2, k2, hc6⟩
          have hb6 : Below w.heap.size w w6 := bchain (by repeat' (first | with_reducible exact hb5 | with_reducible refine Below.drew ?_ | with_reducible refine below_drewN ?_ _ | with_reducible refine Below.alloc ?_ (by have := hb5.size; first | (simp; done) | (simp; omega) | omega) _ | with_reducible refine Below.setCell ?_ (by first | (simp; done) | (simp; omega) | omega) _)) hc6
          have hst6 : Below w5.heap.size w5 w6 := bchain (by repeat' (first | with_reducible exact Below.refl _ _ | with_reducible refine Below.drew ?_ | with_reducible refine below_drewN ?_ _ | with_reducible refine Below.alloc ?_ (by first | (simp; done) | (simp; omega) | omega) _ | with_reducible refine Below.setCell ?_ (by first | (simp; done) | (simp; omega) | omega) _)) hc6
          replace O_0 := cell_later hst6 O_0
          replace O_1 := cell_later hst6 O_1
          replace O_2 := cell_later hst6 O_2
          replace O_l := Nat.lt_of_lt_of_le O_l hst6.size
          have A1_0 : w6.cell? ⟨w5.heap.size, 0, none⟩ = some (.int .i64 W') := (hc6.cell (p := ⟨w5.heap.size, 0, none⟩) (by first | (simp; done) | (simp; omega))).trans (by first | (simp; done) | go_simp)
          have A1_1 : w6.cell? ⟨w5.heap.size, 1, none⟩ = some (.slice a1 n1 c1) := (hc6.cell (p := ⟨w5.heap.size, 1, none⟩) (by first | (simp; done) | (simp; omega))).trans (by first | (simp; done) | go_simp)
          have A1_2 : w6.cell? ⟨w5.heap.size, 2, none⟩ = some (.slice a2 n2 c2) := (hc6.cell (p := ⟨w5.heap.size, 2, none⟩) (by first | (simp; done) | (simp; omega))).trans (by first | (simp; done) | go_simp)
          have A1_l : w5.heap.size < w6.heap.size := Nat.lt_of_lt_of_le (by first | (simp; done) | (simp; omega)) hc6.size
          clear hst6
          clear hc6 hb5
          clear k2
          go_wp2_with fail
          with_reducible refine (same_self W rs q b1 b2 ra qa rn d1 0 d2 rc qc _ (l2.later (below_alloc _ _)) ((H_h.out.later hb6).later (below_alloc _ _))).mono ?_
          rintro e w7 ⟨rfl, hc7⟩
          have hb7 : Below w.heap.size w w7 := bchain (by repeat' (first | with_reducible exact hb6 | with_reducible refine Below.drew ?_ | with_reducible refine below_drewN ?_ _ | with_reducible refine Below.alloc ?_ (by have := hb6.size; first | (simp; done) | (simp; omega) | omega) _ | with_reducible refine Below.setCell ?_ (by first | (simp; done) | (simp; omega) | omega) _)) hc7
          have hst7 : Below w6.heap.size w6 w7 := bchain (by repeat' (first | with_reducible exact Below.refl _ _ | with_reducible refine Below.drew ?_ | with_reducible refine below_drewN ?_ _ | with_reducible refine Below.alloc ?_ (by first | (simp; done) | (simp; omega) | omega) _ | with_reducible refine Below.setCell ?_ (by first | (simp; done) | (simp; omega) | omega) _)) hc7
          replace O_0 := cell_later hst7 O_0
          replace O_1 := cell_later hst7 O_1
          replace O_2 := cell_later hst7 O_2
          replace O_l := Nat.lt_of_lt_of_le O_l hst7.size
          replace A1_0 := cell_later hst7 A1_0
          replace A1_1 := cell_later hst7 A1_1
          replace A1_2 := cell_later hst7 A1_2
          replace A1_l := Nat.lt_of_lt_of_le A1_l hst7.size
          clear hst7
          clear hc7 hb6
          go_wp2_with fail
          go_ret
          exact ⟨rfl, by repeat' (first | with_reducible exact hb7 | with_reducible refine Below.drew ?_ | with_reducible refine below_drewN ?_ _ | with_reducible refine Below.alloc ?_ (by have := hb7.size; first | (simp; done) | (simp; omega) | omega) _ | with_reducible refine Below.setCell ?_ (by first | (simp; done) | (simp; omega) | omega) _)⟩
        | false =>
          have hf := hno rfl
          have hF := fun a1 c1 a2 c2 w h => leave_r W' t rs' q' W rs q [] 0 a1 a2 n1 c1 n2 c2 rn qn 0 w h (by omega) hf hrl hql rfl
          have H_h0 := Box.mk h0
          have H_hg := Box.mk hg
          have H_h := Box.mk h
          have H_hB := Box.mk hB
          have H_hH := Box.mk hH
          have H_hz := Box.mk hz
          have H_hy := Box.mk hy
          have H_hv := Box.mk hv
          have H_ht := Box.mk ht
          have H_ha := Box.mk ha
          have H_hv' := Box.mk hv'
          have H_hr1 := Box.mk hr1
          have H_hq1 := Box.mk hq1
          have H_hyes := Box.mk hyes
          have H_hno := Box.mk hno
          have H_hrl := Box.mk hrl
          have H_hql := Box.mk hql
          have H_hn1 := Box.mk hn1
          have H_hn2 := Box.mk hn2
          have H_hA := Box.mk hA
          have H_hF := Box.mk hF
          have H_hf := Box.mk hf
          clear h0 hg h hB hH hz hy hv ht ha hv' hr1 hq1 hyes hno hrl hql hn1 hn2 hA hF hf
          go_enter Try.func4, Try.ntmps4
          have hb0 := Below.refl w.heap.size w
          go_wp2_with fail
          with_reducible refine (alive_any _).mono ?_
          rintro e w1 ⟨rfl, hc1⟩
          have hb1 : Below w.heap.size w w1 := bchain (by repeat' (first | with_reducible exact hb0 | with_reducible refine Below.drew ?_ | with_reducible refine below_drewN ?_ _ | with_reducible refine Below.alloc ?_ (by have := hb0.size; first | (simp; done) | (simp; omega) | omega) _ | with_reducible refine Below.setCell ?_ (by first | (simp; done) | (simp; omega) | omega) _)) hc1
          have O_0 : w1.cell? ⟨w.heap.size, 0, none⟩ = some (.int .i64 W) := (hc1.cell (p := ⟨w.heap.size, 0, none⟩) (by first | (simp; done) | (simp; omega))).trans (by first | (simp; done) | go_simp)
          have O_1 : w1.cell? ⟨w.heap.size, 1, none⟩ = some (.slice ra rn rc) := (hc1.cell (p := ⟨w.heap.size, 1, none⟩) (by first | (simp; done) | (simp; omega))).trans (by first | (simp; done) | go_simp)
          have O_2 : w1.cell? ⟨w.heap.size, 2, none⟩ = some (.slice qa qn qc) := (hc1.cell (p := ⟨w.heap.size, 2, none⟩) (by first | (simp; done) | (simp; omega))).trans (by first | (simp; done) | go_simp)
          have O_l : w.heap.size < w1.heap.size := Nat.lt_of_lt_of_le (by first | (simp; done) | (simp; omega)) hc1.size
          clear hc1 hb0
          go_wp2_with fail
          with_reducible refine (great_any W ra qa rn rc qn qc _).mono ?_
          rintro e w2 ⟨rfl, hc2⟩
          have hb2 : Below w.heap.size w w2 := bchain (by repeat' (first | with_reducible exact hb1 | with_reducible refine Below.drew ?_ | with_reducible refine below_drewN ?_ _ | with_reducible refine Below.alloc ?_ (by have := hb1.size; first | (simp; done) | (simp; omega) | omega) _ | with_reducible refine Below.setCell ?_ (by first | (simp; done) | (simp; omega) | omega) _)) hc2
          have hst2 : Below w1.heap.size w1 w2 := bchain (by repeat' (first | with_reducible exact Below.refl _ _ | with_reducible refine Below.drew ?_ | with_reducible refine below_drewN ?_ _ | with_reducible refine Below.alloc ?_ (by first | (simp; done) | (simp; omega) | omega) _ | with_reducible refine Below.setCell ?_ (by first | (simp; done) | (simp; omega) | omega) _)) hc2
          replace O_0 := cell_later hst2 O_0
          replace O_1 := cell_later hst2 O_1
          replace O_2 := cell_later hst2 O_2
          replace O_l := Nat.lt_of_lt_of_le O_l hst2.size
          clear hst2
          clear hc2 hb1
          rw [H_hg.out]
          go_wp2_with fail
          with_reducible refine (H_hB.out _ (H_h.out.later hb2)).mono ?_
          rintro e w3 ⟨rfl, hc3⟩
          have hb3 : Below w.heap.size w w3 := bchain (by repeat' (first | with_reducible exact hb2 | with_reducible refine Below.drew ?_ | with_reducible refine below_drewN ?_ _ | with_reducible refine Below.alloc ?_ (by have := hb2.size; first | (simp; done) | (simp; omega) | omega) _ | with_reducible refine Below.setCell ?_ (by first | (simp; done) | (simp; omega) | omega) _)) hc3
          have hst3 : Below w2.heap.size w2 w3 := bchain (by repeat' (first | with_reducible exact Below.refl _ _ | with_reducible refine Below.drew ?_ | with_reducible refine below_drewN ?_ _ | with_reducible refine Below.alloc ?_ (by first | (simp; done) | (simp; omega) | omega) _ | with_reducible refine Below.setCell ?_ (by first | (simp; done) | (simp; omega) | omega) _)) hc3
          replace O_0 := cell_later hst3 O_0
          replace O_1 := cell_later hst3 O_1
          replace O_2 := cell_later hst3 O_2
          replace O_l := Nat.lt_of_lt_of_le O_l hst3.size
          clear hst3
          clear hc3 hb2
          go_wp2_with fail
          with_reducible refine (H_hH.out _ (H_h.out.later hb3)).mono ?_
          rintro e w4 ⟨rfl, hc4⟩
          have hb4 : Below w.heap.size w w4 := bchain (by repeat' (first | with_reducible exact hb3 | with_reducible refine Below.drew ?_ | with_reducible refine below_drewN ?_ _ | with_reducible refine Below.alloc ?_ (by have := hb3.size; first | (simp; done) | (simp; omega) | omega) _ | with_reducible refine Below.setCell ?_ (by first | (simp; done) | (simp; omega) | omega) _)) hc4
          have hst4 : Below w3.heap.size w3 w4 := bchain (by repeat' (first | with_reducible exact Below.refl _ _ | with_reducible refine Below.drew ?_ | with_reducible refine below_drewN ?_ _ | with_reducible refine Below.alloc ?_ (by first | (simp; done) | (simp; omega) | omega) _ | with_reducible refine Below.setCell ?_ (by first | (simp; done) | (simp; omega) | omega) _)) hc4
          replace O_0 := cell_later hst4 O_0
          replace O_1 := cell_later hst4 O_1
          replace O_2 := cell_later hst4 O_2
          replace O_l := Nat.lt_of_lt_of_le O_l hst4.size
          clear hst4
          clear hc4 hb3
          go_wp2_with fail
          with_reducible refine (H_hA.out _ (H_h.out.later hb4)).mono ?_
          rintro e w5 ⟨a1, c1, a2, c2, rfl, l1, hc5⟩
          have hb5 : Below w.heap.size w w5 := bchain (by repeat' (first | with_reducible exact hb4 | with_reducible refine Below.drew ?_ | with_reducible refine below_drewN ?_ _ | with_reducible refine Below.alloc ?_ (by have := hb4.size; first | (simp; done) | (simp; omega) | omega) _ | with_reducible refine Below.setCell ?_ (by first | (simp; done) | (simp; omega) | omega) _)) hc5
          have hst5 : Below w4.heap.size w4 w5 := bchain (by repeat' (first | with_reducible exact Below.refl _ _ | with_reducible refine Below.drew ?_ | with_reducible refine below_drewN ?_ _ | with_reducible refine Below.alloc ?_ (by first | (simp; done) | (simp; omega) | omega) _ | with_reducible refine Below.setCell ?_ (by first | (simp; done) | (simp; omega) | omega) _)) hc5
          replace O_0 := cell_later hst5 O_0
          replace O_1 := cell_later hst5 O_1
          replace O_2 := cell_later hst5 O_2
          replace O_l := Nat.lt_of_lt_of_le O_l hst5.size
          clear hst5
          clear hc5 hb4
          go_wp2_with fail
          with_reducible refine (H_hF.out a1 c1 a2 c2 _ (l1.later (below_alloc _ _))).mono ?_
          rintro e w6 ⟨b1, d1, b2, d2, b3, d3, rfl, l2, k2, hc6⟩
          have hb6 : Below w.heap.size w w6 := bchain (by repeat' (first | with_reducible exact hb5 | with_reducible refine Below.drew ?_ | with_reducible refine below_drewN ?_ _ | with_reducible refine Below.alloc ?_ (by have := hb5.size; first | (simp; done) | (simp; omega) | omega) _ | with_reducible refine Below.setCell ?_ (by first | (simp; done) | (simp; omega) | omega) _)) hc6
          have hst6 : Below w5.heap.size w5 w6 := bchain (by repeat' (first | with_reducible exact Below.refl _ _ | with_reducible refine Below.drew ?_ | with_reducible refine below_drewN ?_ _ | with_reducible refine Below.alloc ?_ (by first | (simp; done) | (simp; omega) | omega) _ | with_reducible refine Below.setCell ?_ (by first | (simp; done) | (simp; omega) | omega) _)) hc6
          replace O_0 := cell_later hst6 O_0
          replace O_1 := cell_later hst6 O_1
          replace O_2 := cell_later hst6 O_2
          replace O_l := Nat.lt_of_lt_of_le O_l hst6.size
          have A1_0 : w6.cell? ⟨w5.heap.size, 0, none⟩ = some (.int .i64 W') := (hc6.cell (p := ⟨w5.heap.size, 0, none⟩) (by first | (simp; done) | (simp; omega))).trans (by first | (simp; done) | go_simp)
          have A1_1 : w6.cell? ⟨w5.heap.size, 1, none⟩ = some (.slice a1 n1 c1) := (hc6.cell (p := ⟨w5.heap.size, 1, none⟩) (by first | (simp; done) | (simp; omega))).trans (by first | (simp; done) | go_simp)
          have A1_2 : w6.cell? ⟨w5.heap.size, 2, none⟩ = some (.slice a2 n2 c2) := (hc6.cell (p := ⟨w5.heap.size, 2, none⟩) (by first | (simp; done) | (simp; omega))).trans (by first | (simp; done) | go_simp)
          have A1_l : w5.heap.size < w6.heap.size := Nat.lt_of_lt_of_le (by first | (simp; done) | (simp; omega)) hc6.size
          clear hst6
          clear hc6 hb5
          clear k2
          go_wp2_with fail
          with_reducible refine (same_self W rs q b1 b2 ra qa rn d1 qn d2 rc qc _ (l2.later (below_alloc _ _)) ((H_h.out.later hb6).later (below_alloc _ _))).mono ?_
          rintro e w7 ⟨rfl, hc7⟩
          have hb7 : Below w.heap.size w w7 := bchain (by repeat' (first | with_reducible exact hb6 | with_reducible refine Below.drew ?_ | with_reducible refine below_drewN ?_ _ | with_reducible refine Below.alloc ?_ (by have := hb6.size; first | (simp; done) | (simp; omega) | omega) _ | with_reducible refine Below.setCell ?_ (by first | (simp; done) | (simp; omega) | omega) _)) hc7
          have hst7 : Below w6.heap.size w6 w7 := bchain (by repeat' (first | with_reducible exact Below.refl _ _ | with_reducible refine Below.drew ?_ | with_reducible refine below_drewN ?_ _ | with_reducible refine Below.alloc ?_ (by first | (simp; done) | (simp; omega) | omega) _ | with_reducible refine Below.setCell ?_ (by first | (simp; done) | (simp; omega) | omega) _)) hc7
          replace O_0 := cell_later hst7 O_0
          replace O_1 := cell_later hst7 O_1
          replace O_2 := cell_later hst7 O_2
          replace O_l := Nat.lt_of_lt_of_le O_l hst7.size
          replace A1_0 := cell_later hst7 A1_0
          replace A1_1 := cell_later hst7 A1_1
          replace A1_2 := cell_later hst7 A1_2
          replace A1_l := Nat.lt_of_lt_of_le A1_l hst7.size
          clear hst7
          clear hc7 hb6
          go_wp2_with fail
          go_ret
          exact ⟨rfl, by repeat' (first | with_reducible exact hb7 | with_reducible refine Below.drew ?_ | with_reducible refine below_drewN ?_ _ | with_reducible refine Below.alloc ?_ (by have := hb7.size; first | (simp; done) | (simp; omega) | omega) _ | with_reducible refine Below.setCell ?_ (by first | (simp; done) | (simp; omega) | omega) _)⟩
      · have hne : (y != 0) = true := bne_iff_ne.2 hy0
        clear hy0
        have H_h0 := Box.mk h0
        have H_hg := Box.mk hg
        have H_h := Box.mk h
        have H_hB := Box.mk hB
        have H_hH := Box.mk hH
        have H_hz := Box.mk hz
        have H_hy := Box.mk hy
        clear h0 hg h hB hH hz hy
        go_enter Try.func4, Try.ntmps4
        have hb0 := Below.refl w.heap.size w
        go_wp2_with fail
        with_reducible refine (alive_any _).mono ?_
        rintro e w1 ⟨rfl, hc1⟩
        have hb1 : Below w.heap.size w w1 := bchain (by repeat' (first | with_reducible exact hb0 | with_reducible refine Below.drew ?_ | with_reducible refine below_drewN ?_ _ | with_reducible refine Below.alloc ?_ (by have := hb0.size; first | (simp; done) | (simp; omega) | omega) _ | with_reducible refine Below.setCell ?_ (by first | (simp; done) | (simp; omega) | omega) _)) hc1
        have O_0 : w1.cell? ⟨w.heap.size, 0, none⟩ = some (.int .i64 W) := (hc1.cell (p := ⟨w.heap.size, 0, none⟩) (by first | (simp; done) | (simp; omega))).trans (by first | (simp; done) | go_simp)
        have O_1 : w1.cell? ⟨w.heap.size, 1, none⟩ = some (.slice ra rn rc) := (hc1.cell (p := ⟨w.heap.size, 1, none⟩) (by first | (simp; done) | (simp; omega))).trans (by first | (simp; done) | go_simp)
        have O_2 : w1.cell? ⟨w.heap.size, 2, none⟩ = some (.slice qa qn qc) := (hc1.cell (p := ⟨w.heap.size, 2, none⟩) (by first | (simp; done) | (simp; omega))).trans (by first | (simp; done) | go_simp)
        have O_l : w.heap.size < w1.heap.size := Nat.lt_of_lt_of_le (by first | (simp; done) | (simp; omega)) hc1.size
        clear hc1 hb0
        go_wp2_with fail
        with_reducible refine (great_any W ra qa rn rc qn qc _).mono ?_
        rintro e w2 ⟨rfl, hc2⟩
        have hb2 : Below w.heap.size w w2 := bchain (by repeat' (first | with_reducible exact hb1 | with_reducible refine Below.drew ?_ | with_reducible refine below_drewN ?_ _ | with_reducible refine Below.alloc ?_ (by have := hb1.size; first | (simp; done) | (simp; omega) | omega) _ | with_reducible refine Below.setCell ?_ (by first | (simp; done) | (simp; omega) | omega) _)) hc2
        have hst2 : Below w1.heap.size w1 w2 := bchain (by repeat' (first | with_reducible exact Below.refl _ _ | with_reducible refine Below.drew ?_ | with_reducible refine below_drewN ?_ _ | with_reducible refine Below.alloc ?_ (by first | (simp; done) | (simp; omega) | omega) _ | with_reducible refine Below.setCell ?_ (by first | (simp; done) | (simp; omega) | omega) _)) hc2
        replace O_0 := cell_later hst2 O_0
        replace O_1 := cell_later hst2 O_1
        replace O_2 := cell_later hst2 O_2
        replace O_l := Nat.lt_of_lt_of_le O_l hst2.size
        clear hst2
        clear hc2 hb1
        rw [H_hg.out]
        go_wp2_with fail
        with_reducible refine (H_hB.out _ (H_h.out.later hb2)).mono ?_
        rintro e w3 ⟨rfl, hc3⟩
        have hb3 : Below w.heap.size w w3 := bchain (by repeat' (first | with_reducible exact hb2 | with_reducible refine Below.drew ?_ | with_reducible refine below_drewN ?_ _ | with_reducible refine Below.alloc ?_ (by have := hb2.size; first | (simp; done) | (simp; omega) | omega) _ | with_reducible refine Below.setCell ?_ (by first | (simp; done) | (simp; omega) | omega) _)) hc3
        have hst3 : Below w2.heap.size w2 w3 := bchain (by repeat' (first | with_reducible exact Below.refl _ _ | with_reducible refine Below.drew ?_ | with_reducible refine below_drewN ?_ _ | with_reducible refine Below.alloc ?_ (by first | (simp; done) | (simp; omega) | omega) _ | with_reducible refine Below.setCell ?_ (by first | (simp; done) | (simp; omega) | omega) _)) hc3
        replace O_0 := cell_later hst3 O_0
        replace O_1 := cell_later hst3 O_1
        replace O_2 := cell_later hst3 O_2
        replace O_l := Nat.lt_of_lt_of_le O_l hst3.size
        clear hst3
        clear hc3 hb2
        go_wp2_with fail
        with_reducible refine (H_hH.out _ (H_h.out.later hb3)).mono ?_
        rintro e w4 ⟨rfl, hc4⟩
        have hb4 : Below w.heap.size w w4 := bchain (by repeat' (first | with_reducible exact hb3 | with_reducible refine Below.drew ?_ | with_reducible refine below_drewN ?_ _ | with_reducible refine Below.alloc ?_ (by have := hb3.size; first | (simp; done) | (simp; omega) | omega) _ | with_reducible refine Below.setCell ?_ (by first | (simp; done) | (simp; omega) | omega) _)) hc4
        have hst4 : Below w3.heap.size w3 w4 := bchain (by repeat' (first | with_reducible exact Below.refl _ _ | with_reducible refine Below.drew ?_ | with_reducible refine below_drewN ?_ _ | with_reducible refine Below.alloc ?_ (by first | (simp; done) | (simp; omega) | omega) _ | with_reducible refine Below.setCell ?_ (by first | (simp; done) | (simp; omega) | omega) _)) hc4
        replace O_0 := cell_later hst4 O_0
        replace O_1 := cell_later hst4 O_1
        replace O_2 := cell_later hst4 O_2
        replace O_l := Nat.lt_of_lt_of_le O_l hst4.size
        clear hst4
        clear hc4 hb3
        go_wp2_with fail
        go_ret
        exact ⟨rfl, by repeat' (first | with_reducible exact hb4 | with_reducible refine Below.drew ?_ | with_reducible refine below_drewN ?_ _ | with_reducible refine Below.alloc ?_ (by have := hb4.size; first | (simp; done) | (simp; omega) | omega) _ | with_reducible refine Below.setCell ?_ (by first | (simp; done) | (simp; omega) | omega) _)⟩
    · have hne : (z != 0) = true := bne_iff_ne.2 hz0
      clear hz0
      have H_h0 := Box.mk h0
      have H_hg := Box.mk hg
      have H_h := Box.mk h
      have H_hB := Box.mk hB
      have H_hH := Box.mk hH
      have H_hz := Box.mk hz
      have H_hy := Box.mk hy
      clear h0 hg h hB hH hz hy
      go_enter Try.func4, Try.ntmps4
      have hb0 := Below.refl w.heap.size w
      go_wp2_with fail
      with_reducible refine (alive_any _).mono ?_
      rintro e w1 ⟨rfl, hc1⟩
      have hb1 : Below w.heap.size w w1 := bchain (by repeat' (first | with_reducible exact hb0 | with_reducible refine Below.drew ?_ | with_reducible refine below_drewN ?_ _ | with_reducible refine Below.alloc ?_ (by have := hb0.size; first | (simp; done) | (simp; omega) | omega) _ | with_reducible refine Below.setCell ?_ (by first | (simp; done) | (simp; omega) | omega) _)) hc1
      have O_0 : w1.cell? ⟨w.heap.size, 0, none⟩ = some (.int .i64 W) := (hc1.cell (p := ⟨w.heap.size, 0, none⟩) (by first | (simp; done) | (simp; omega))).trans (by first | (simp; done) | go_simp)
      have O_1 : w1.cell? ⟨w.heap.size, 1, none⟩ = some (.slice ra rn rc) := (hc1.cell (p := ⟨w.heap.size, 1, none⟩) (by first | (simp; done) | (simp; omega))).trans (by first | (simp; done) | go_simp)
      have O_2 : w1.cell? ⟨w.heap.size, 2, none⟩ = some (.slice qa qn qc) := (hc1.cell (p := ⟨w.heap.size, 2, none⟩) (by first | (simp; done) | (simp; omega))).trans (by first | (simp; done) | go_simp)
      have O_l : w.heap.size < w1.heap.size := Nat.lt_of_lt_of_le (by first | (simp; done) | (simp; omega)) hc1.size
      clear hc1 hb0
      go_wp2_with fail
      with_reducible refine (great_any W ra qa rn rc qn qc _).mono ?_
      rintro e w2 ⟨rfl, hc2⟩
      have hb2 : Below w.heap.size w w2 := bchain (by repeat' (first | with_reducible exact hb1 | with_reducible refine Below.drew ?_ | with_reducible refine below_drewN ?_ _ | with_reducible refine Below.alloc ?_ (by have := hb1.size; first | (simp; done) | (simp; omega) | omega) _ | with_reducible refine Below.setCell ?_ (by first | (simp; done) | (simp; omega) | omega) _)) hc2
      have hst2 : Below w1.heap.size w1 w2 := bchain (by repeat' (first | with_reducible exact Below.refl _ _ | with_reducible refine Below.drew ?_ | with_reducible refine below_drewN ?_ _ | with_reducible refine Below.alloc ?_ (by first | (simp; done) | (simp; omega) | omega) _ | with_reducible refine Below.setCell ?_ (by first | (simp; done) | (simp; omega) | omega) _)) hc2
      replace O_0 := cell_later hst2 O_0
      replace O_1 := cell_later hst2 O_1
      replace O_2 := cell_later hst2 O_2
      replace O_l := Nat.lt_of_lt_of_le O_l hst2.size
      clear hst2
      clear hc2 hb1
      rw [H_hg.out]
      go_wp2_with fail
      with_reducible refine (H_hB.out _ (H_h.out.later hb2)).mono ?_
      rintro e w3 ⟨rfl, hc3⟩
      have hb3 : Below w.heap.size w w3 := bchain (by repeat' (first | with_reducible exact hb2 | with_reducible refine Below.drew ?_ | with_reducible refine below_drewN ?_ _ | with_reducible refine Below.alloc ?_ (by have := hb2.size; first | (simp; done) | (simp; omega) | omega) _ | with_reducible refine Below.setCell ?_ (by first | (simp; done) | (simp; omega) | omega) _)) hc3
      have hst3 : Below w2.heap.size w2 w3 := bchain (by repeat' (first | with_reducible exact Below.refl _ _ | with_reducible refine Below.drew ?_ | with_reducible refine below_drewN ?_ _ | with_reducible refine Below.alloc ?_ (by first | (simp; done) | (simp; omega) | omega) _ | with_reducible refine Below.setCell ?_ (by first | (simp; done) | (simp; omega) | omega) _)) hc3
      replace O_0 := cell_later hst3 O_0
      replace O_1 := cell_later hst3 O_1
      replace O_2 := cell_later hst3 O_2
      replace O_l := Nat.lt_of_lt_of_le O_l hst3.size
      clear hst3
      clear hc3 hb2
      go_wp2_with fail
      go_ret
      exact ⟨rfl, by repeat' (first | with_reducible exact hb3 | with_reducible refine Below.drew ?_ | with_reducible refine below_drewN ?_ _ | with_reducible refine Below.alloc ?_ (by have := hb3.size; first | (simp; done) | (simp; omega) | omega) _ | with_reducible refine Below.setCell ?_ (by first | (simp; done) | (simp; omega) | omega) _)⟩

theorem leaves_full (W : Int) (rs : List Int) (q : Waits) (ra : Option Addr) (rn rc : Nat) (qa : Option Addr) (qn qc : Nat) (t : Int) (b : Bool) (w : World) (h0 : LkIn w rs q ra rn qa qn) (_ : (Lit.int .i64 t).wf = true) :
    Calls Try.prog 4 #[.agg #[.int .i64 W, .slice ra rn rc, .slice qa qn qc], .int .i64 t, .bool b] w fun e w' =>
      e = .returned (.bool true) ∧ Below w.heap.size w w' := leaves_walk W rs q ra rn rc qa qn qc t b w h0

end Go.Proofs.Ytnkbbfeaodppgaa
