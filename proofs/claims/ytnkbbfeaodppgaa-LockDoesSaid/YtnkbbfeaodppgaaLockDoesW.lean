/- The law LockDoes. -/
import Derived.Test.YtnkbbfeaodppgaaLockRLeave
import Derived.Test.YtnkbbfeaodppgaaFastLex
namespace Go.Proofs.Ytnkbbfeaodppgaa
set_option linter.unusedSimpArgs false
set_option linter.unusedVariables false
set_option linter.unnecessarySimpa false
open Go.RowKit

theorem rask_r (W t : Int) (b : Bool) (rs : List Int) (q : Waits) (W' : Int) (rs' : List Int) (q' : Waits) (got : Bool) (er : Int) (ra qa : Option Addr) (rn rc qn qc m1 m2 : Nat) (w : World) (h : LockIn w rs q ra qa rn qn) (hmx : rn + qn ≤ 999999) (hr : askZ W rs q t b = ((W', rs', q'), got, er)) (h1 : m1 = rs'.length) (h2 : m2 = q'.length) :
    Calls Try.prog 18 #[.agg #[.int .i64 W, .slice ra rn rc, .slice qa qn qc], .int .i64 t, .bool b] w fun e w' =>
      ∃ a1 c1 a2 c2, e = .returned (.tuple #[.agg #[.int .i64 W', .slice a1 m1 c1, .slice a2 m2 c2], .bool got, .int .i64 er]) ∧ LockIn w' rs' q' a1 a2 m1 m2 ∧ Below w.heap.size w w' := by
  refine (rAsk_any W t b rs q ra qa rn rc qn qc w h hmx).mono ?_
  rintro e w' ⟨a1, n1, c1, a2, n2, c2, rfl, hl, hb⟩
  rw [hr] at hl ⊢
  have e1 := hl.rlen
  have e2 := hl.qlen
  simp only at e1 e2
  rw [← h1] at e1; rw [← h2] at e2
  subst e1 e2
  exact ⟨a1, c1, a2, c2, rfl, hl, hb⟩
theorem rfree_r (W t : Int) (rs : List Int) (q : Waits) (W' : Int) (rs' : List Int) (q' : Waits) (ts : List Int) (er : Int) (ra qa : Option Addr) (rn rc qn qc m1 m2 m3 : Nat) (w : World) (h : LockIn w rs q ra qa rn qn) (hmx : rn + qn ≤ 999999) (hr : freeZ W rs q t = ((W', rs', q'), ts, er)) (h1 : m1 = rs'.length) (h2 : m2 = q'.length) (h3 : m3 = ts.length) :
    Calls Try.prog 19 #[.agg #[.int .i64 W, .slice ra rn rc, .slice qa qn qc], .int .i64 t] w fun e w' =>
      ∃ a1 c1 a2 c2 a3 c3, e = .returned (.tuple #[.agg #[.int .i64 W', .slice a1 m1 c1, .slice a2 m2 c2], .slice a3 m3 c3, .int .i64 er]) ∧ LockIn w' rs' q' a1 a2 m1 m2 ∧ CellsAt w' a3 (ts.map (Value.int .i64)) ∧ Below w.heap.size w w' := by
  refine (rFree_any W t rs q ra qa rn rc qn qc w h hmx).mono ?_
  rintro e w' ⟨a1, n1, c1, a2, n2, c2, a3, n3, c3, rfl, hl, hb⟩
  obtain ⟨rfl, rfl, rfl, k1, k2⟩ := out_r hl hr h1 h2 h3
  rw [hr]
  exact ⟨a1, c1, a2, c2, a3, c3, rfl, k1, k2, hb⟩
theorem rleave_r (W t : Int) (rs : List Int) (q : Waits) (W' : Int) (rs' : List Int) (q' : Waits) (ts : List Int) (er : Int) (ra qa : Option Addr) (rn rc qn qc m1 m2 m3 : Nat) (w : World) (h : LockIn w rs q ra qa rn qn) (hmx : rn + qn ≤ 999999) (hr : leaveZ W rs q t = ((W', rs', q'), ts, er)) (h1 : m1 = rs'.length) (h2 : m2 = q'.length) (h3 : m3 = ts.length) :
    Calls Try.prog 21 #[.agg #[.int .i64 W, .slice ra rn rc, .slice qa qn qc], .int .i64 t] w fun e w' =>
      ∃ a1 c1 a2 c2 a3 c3, e = .returned (.tuple #[.agg #[.int .i64 W', .slice a1 m1 c1, .slice a2 m2 c2], .slice a3 m3 c3, .int .i64 er]) ∧ LockIn w' rs' q' a1 a2 m1 m2 ∧ CellsAt w' a3 (ts.map (Value.int .i64)) ∧ Below w.heap.size w w' := by
  refine (rLeave_any W t rs q ra qa rn rc qn qc w h hmx).mono ?_
  rintro e w' ⟨a1, n1, c1, a2, n2, c2, a3, n3, c3, rfl, hl, hb⟩
  obtain ⟨rfl, rfl, rfl, k1, k2⟩ := out_r hl hr h1 h2 h3
  rw [hr]
  exact ⟨a1, c1, a2, c2, a3, c3, rfl, k1, k2, hb⟩
theorem holds_q (W t : Int) (rs : List Int) (q : Waits) (y er : Int) (ra qa : Option Addr) (rn rc qn qc : Nat) (w : World) (h : LockIn w rs q ra qa rn qn) (hr : holdsZ W rs q t = (y, er)) :
    Calls Try.prog 22 #[.agg #[.int .i64 W, .slice ra rn rc, .slice qa qn qc], .int .i64 t] w fun e w' =>
      e = .returned (.tuple #[.int .i64 y, .int .i64 er]) ∧ Below w.heap.size w w' := by
  have := Holds_any W t rs q ra qa rn rc qn qc w h
  rw [hr] at this
  exact this
theorem rholds_q (W t : Int) (rs : List Int) (q : Waits) (y er : Int) (ra qa : Option Addr) (rn rc qn qc : Nat) (w : World) (h : LockIn w rs q ra qa rn qn) (hr : holdsZ W rs q t = (y, er)) :
    Calls Try.prog 23 #[.agg #[.int .i64 W, .slice ra rn rc, .slice qa qn qc], .int .i64 t] w fun e w' =>
      e = .returned (.tuple #[.int .i64 y, .int .i64 er]) ∧ Below w.heap.size w w' := by
  have := rHolds_any W t rs q ra qa rn rc qn qc w h
  rw [hr] at this
  exact this
theorem check_q (W er : Int) (rs : List Int) (q : Waits) (ra qa : Option Addr) (rn rc qn qc : Nat) (w : World) (h : LockIn w rs q ra qa rn qn) (hr : lockErr W rs q = er) :
    Calls Try.prog 24 #[.agg #[.int .i64 W, .slice ra rn rc, .slice qa qn qc]] w fun e w' =>
      e = .returned (.int .i64 er) ∧ Below w.heap.size w w' := hr ▸ check_any W rs q ra qa rn rc qn qc w h
theorem rcheck_q (W er : Int) (rs : List Int) (q : Waits) (ra qa : Option Addr) (rn rc qn qc : Nat) (w : World) (h : LockIn w rs q ra qa rn qn) (hr : lockErr W rs q = er) :
    Calls Try.prog 10 #[.agg #[.int .i64 W, .slice ra rn rc, .slice qa qn qc]] w fun e w' =>
      e = .returned (.int .i64 er) ∧ Below w.heap.size w w' := hr ▸ rCheck_any W rs q ra qa rn rc qn qc w h
theorem freeZ_len (W t : Int) (rs : List Int) (q : Waits) : (freeZ W rs q t).2.1.length ≤ q.length := by
  unfold freeZ
  have key : ∀ W' rs', (grantP W' rs' q).2.2.2.length ≤ q.length := fun W' rs' => by
    have := congrArg List.length (grantP_all W' q rs')
    rw [List.length_append, List.length_map, List.length_map] at this
    omega
  (repeat' split) <;> first | exact key _ _ | simp
theorem leaveZ_len (W t : Int) (rs : List Int) (q : Waits) : (leaveZ W rs q t).2.1.length ≤ q.length := by
  unfold leaveZ
  have key : ∀ q' : Waits, q'.length ≤ q.length → (grantP W rs q').2.2.2.length ≤ q.length := fun q' h => by
    have := congrArg List.length (grantP_all W q' rs)
    rw [List.length_append, List.length_map, List.length_map] at this
    omega
  (repeat' split) <;> first | exact key _ (List.length_eraseIdx_le _ _) | simp

set_option maxRecDepth 100000 in
set_option maxHeartbeats 10000000 in
theorem does_walk (W : Int) (rs : List Int) (q : Waits) (ra : Option Addr) (rn rc : Nat) (qa : Option Addr) (qn qc : Nat) (t : Int) (b : Bool) (w : World) (h0 : LkIn w rs q ra rn qa qn) (_ : (Lit.int .i64 t).wf = true) :
    Calls Try.prog 5 #[.agg #[.int .i64 W, .slice ra rn rc, .slice qa qn qc], .int .i64 t, .bool b] w fun e w' =>
      e = .returned (.bool true) ∧ Below w.heap.size w w' := by
  cases hg : greatB rn qn with
  | true =>
    have H_h0 := Box.mk h0
    have H_hg := Box.mk hg
    clear h0 hg
    go_enter Try.func5, Try.ntmps5
    have hb0 := Below.refl w.heap.size w
    go_wp2_with fail
    with_reducible refine (great_any W ra qa rn rc qn qc _).mono ?_
    rintro e w1 ⟨rfl, hc1⟩
    have hb1 : Below w.heap.size w w1 := bchain (by repeat' (first | with_reducible exact hb0 | with_reducible refine Below.drew ?_ | with_reducible refine below_drewN ?_ _ | with_reducible refine Below.alloc ?_ (by have := hb0.size; first | (simp; done) | (simp; omega) | omega) _ | with_reducible refine Below.setCell ?_ (by first | (simp; done) | (simp; omega) | omega) _)) hc1
    have O_0 : w1.cell? ⟨w.heap.size, 0, none⟩ = some (.int .i64 W) := (hc1.cell (p := ⟨w.heap.size, 0, none⟩) (by first | (simp; done) | (simp; omega))).trans (by first | (simp; done) | go_simp)
    have O_1 : w1.cell? ⟨w.heap.size, 1, none⟩ = some (.slice ra rn rc) := (hc1.cell (p := ⟨w.heap.size, 1, none⟩) (by first | (simp; done) | (simp; omega))).trans (by first | (simp; done) | go_simp)
    have O_2 : w1.cell? ⟨w.heap.size, 2, none⟩ = some (.slice qa qn qc) := (hc1.cell (p := ⟨w.heap.size, 2, none⟩) (by first | (simp; done) | (simp; omega))).trans (by first | (simp; done) | go_simp)
    have O_l : w.heap.size < w1.heap.size := Nat.lt_of_lt_of_le (by first | (simp; done) | (simp; omega)) hc1.size
    clear hc1 hb0
    rw [H_hg.out]
    go_wp2_with fail
    go_ret
    exact ⟨rfl, by repeat' (first | with_reducible exact hb1 | with_reducible refine Below.drew ?_ | with_reducible refine below_drewN ?_ _ | with_reducible refine Below.alloc ?_ (by have := hb1.size; first | (simp; done) | (simp; omega) | omega) _ | with_reducible refine Below.setCell ?_ (by first | (simp; done) | (simp; omega) | omega) _)⟩
  | false =>
    have hlim : rn ≤ 100 ∧ qn ≤ 100 := by unfold greatB at hg; simp at hg; exact hg
    obtain ⟨hl1, hl2⟩ := hlim
    have h := h0.lock hl1 hl2
    have hs : rn + qn ≤ 999999 := by omega
    have hql := h.qlen
    obtain ⟨⟨⟨W2, rs2, q2⟩, got, er2⟩, hA⟩ : ∃ A, askZ W rs q t b = A := ⟨_, rfl⟩
    obtain ⟨⟨⟨W3, rs3, q3⟩, ts3, er3⟩, hF⟩ : ∃ A, freeZ W rs q t = A := ⟨_, rfl⟩
    obtain ⟨⟨⟨W4, rs4, q4⟩, ts4, er4⟩, hV⟩ : ∃ A, leaveZ W rs q t = A := ⟨_, rfl⟩
    obtain ⟨⟨y, er5⟩, hH⟩ : ∃ A, holdsZ W rs q t = A := ⟨_, rfl⟩
    obtain ⟨ck, hck⟩ : ∃ A, lockErr W rs q = A := ⟨_, rfl⟩
    have hx3 := freeZ_len W t rs q
    rw [hF] at hx3
    have hx4 := leaveZ_len W t rs q
    rw [hV] at hx4
    obtain ⟨i1, hi1⟩ : ∃ i, i = rs2.length := ⟨_, rfl⟩
    obtain ⟨i2, hi2⟩ : ∃ i, i = q2.length := ⟨_, rfl⟩
    obtain ⟨j1, hj1⟩ : ∃ i, i = rs3.length := ⟨_, rfl⟩
    obtain ⟨j2, hj2⟩ : ∃ i, i = q3.length := ⟨_, rfl⟩
    obtain ⟨j3, hj3⟩ : ∃ i, i = ts3.length := ⟨_, rfl⟩
    obtain ⟨k1, hk1⟩ : ∃ i, i = rs4.length := ⟨_, rfl⟩
    obtain ⟨k2, hk2⟩ : ∃ i, i = q4.length := ⟨_, rfl⟩
    obtain ⟨k3, hk3⟩ : ∃ i, i = ts4.length := ⟨_, rfl⟩
    have hj3m : j3 ≤ 1000001 := by simp only at hx3; omega
    have hk3m : k3 ≤ 1000001 := by simp only at hx4; omega
    clear hx3 hx4
    have H_h0 := Box.mk h0
    have H_hg := Box.mk hg
    have H_h := Box.mk h
    have H_hA := Box.mk hA
    have H_hF := Box.mk hF
    have H_hV := Box.mk hV
    have H_hH := Box.mk hH
    have H_hck := Box.mk hck
    have H_hi1 := Box.mk hi1
    have H_hi2 := Box.mk hi2
    have H_hj1 := Box.mk hj1
    have H_hj2 := Box.mk hj2
    have H_hj3 := Box.mk hj3
    have H_hk1 := Box.mk hk1
    have H_hk2 := Box.mk hk2
    have H_hk3 := Box.mk hk3
    have H_hql := Box.mk hql
    clear h0 hg h hA hF hV hH hck hi1 hi2 hj1 hj2 hj3 hk1 hk2 hk3 hql
    go_enter Try.func5, Try.ntmps5
    have hb0 := Below.refl w.heap.size w
    go_wp2_with fail
    with_reducible refine (great_any W ra qa rn rc qn qc _).mono ?_
    rintro e w1 ⟨rfl, hc1⟩
    have hb1 : Below w.heap.size w w1 := bchain (by repeat' (first | with_reducible exact hb0 | with_reducible refine Below.drew ?_ | with_reducible refine below_drewN ?_ _ | with_reducible refine Below.alloc ?_ (by have := hb0.size; first | (simp; done) | (simp; omega) | omega) _ | with_reducible refine Below.setCell ?_ (by first | (simp; done) | (simp; omega) | omega) _)) hc1
    have O_0 : w1.cell? ⟨w.heap.size, 0, none⟩ = some (.int .i64 W) := (hc1.cell (p := ⟨w.heap.size, 0, none⟩) (by first | (simp; done) | (simp; omega))).trans (by first | (simp; done) | go_simp)
    have O_1 : w1.cell? ⟨w.heap.size, 1, none⟩ = some (.slice ra rn rc) := (hc1.cell (p := ⟨w.heap.size, 1, none⟩) (by first | (simp; done) | (simp; omega))).trans (by first | (simp; done) | go_simp)
    have O_2 : w1.cell? ⟨w.heap.size, 2, none⟩ = some (.slice qa qn qc) := (hc1.cell (p := ⟨w.heap.size, 2, none⟩) (by first | (simp; done) | (simp; omega))).trans (by first | (simp; done) | go_simp)
    have O_l : w.heap.size < w1.heap.size := Nat.lt_of_lt_of_le (by first | (simp; done) | (simp; omega)) hc1.size
    clear hc1 hb0
    rw [H_hg.out]
    go_wp2_with fail
    with_reducible refine (rtwin_own W rs q ra qa rn rc qn qc _ (H_h.out.later hb1)).mono ?_
    rintro e w2 ⟨u1, v1, u2, v2, rfl, oU, hc2⟩
    have hb2 : Below w.heap.size w w2 := bchain (by repeat' (first | with_reducible exact hb1 | with_reducible refine Below.drew ?_ | with_reducible refine below_drewN ?_ _ | with_reducible refine Below.alloc ?_ (by have := hb1.size; first | (simp; done) | (simp; omega) | omega) _ | with_reducible refine Below.setCell ?_ (by first | (simp; done) | (simp; omega) | omega) _)) hc2
    have hst2 : Below w1.heap.size w1 w2 := bchain (by repeat' (first | with_reducible exact Below.refl _ _ | with_reducible refine Below.drew ?_ | with_reducible refine below_drewN ?_ _ | with_reducible refine Below.alloc ?_ (by first | (simp; done) | (simp; omega) | omega) _ | with_reducible refine Below.setCell ?_ (by first | (simp; done) | (simp; omega) | omega) _)) hc2
    replace O_0 := cell_later hst2 O_0
    replace O_1 := cell_later hst2 O_1
    replace O_2 := cell_later hst2 O_2
    replace O_l := Nat.lt_of_lt_of_le O_l hst2.size
    clear hst2
    clear hc2 hb1
    have hU := oU.in (by omega) (by omega)
    clear oU
    go_wp2_with fail
    with_reducible refine (ask_r W t b rs q W2 rs2 q2 got er2 u1 u2 rn v1 qn v2 i1 i2 _ (hU.later (below_alloc _ _)) hs H_hA.out H_hi1.out H_hi2.out).mono ?_
    rintro e w3 ⟨a1, c1, a2, c2, rfl, l1, hc3⟩
    have hb3 : Below w.heap.size w w3 := bchain (by repeat' (first | with_reducible exact hb2 | with_reducible refine Below.drew ?_ | with_reducible refine below_drewN ?_ _ | with_reducible refine Below.alloc ?_ (by have := hb2.size; first | (simp; done) | (simp; omega) | omega) _ | with_reducible refine Below.setCell ?_ (by first | (simp; done) | (simp; omega) | omega) _)) hc3
    have hst3 : Below w2.heap.size w2 w3 := bchain (by repeat' (first | with_reducible exact Below.refl _ _ | with_reducible refine Below.drew ?_ | with_reducible refine below_drewN ?_ _ | with_reducible refine Below.alloc ?_ (by first | (simp; done) | (simp; omega) | omega) _ | with_reducible refine Below.setCell ?_ (by first | (simp; done) | (simp; omega) | omega) _)) hc3
    replace O_0 := cell_later hst3 O_0
    replace O_1 := cell_later hst3 O_1
    replace O_2 := cell_later hst3 O_2
    replace O_l := Nat.lt_of_lt_of_le O_l hst3.size
    have U_0 : w3.cell? ⟨w2.heap.size, 0, none⟩ = some (.int .i64 W) := (hc3.cell (p := ⟨w2.heap.size, 0, none⟩) (by first | (simp; done) | (simp; omega))).trans (by first | (simp; done) | go_simp)
    have U_1 : w3.cell? ⟨w2.heap.size, 1, none⟩ = some (.slice u1 rn v1) := (hc3.cell (p := ⟨w2.heap.size, 1, none⟩) (by first | (simp; done) | (simp; omega))).trans (by first | (simp; done) | go_simp)
    have U_2 : w3.cell? ⟨w2.heap.size, 2, none⟩ = some (.slice u2 qn v2) := (hc3.cell (p := ⟨w2.heap.size, 2, none⟩) (by first | (simp; done) | (simp; omega))).trans (by first | (simp; done) | go_simp)
    have U_l : w2.heap.size < w3.heap.size := Nat.lt_of_lt_of_le (by first | (simp; done) | (simp; omega)) hc3.size
    replace hU := hU.later hst3
    clear hst3
    clear hc3 hb2
    go_wp2_with fail
    with_reducible refine (rask_r W t b rs q W2 rs2 q2 got er2 ra qa rn rc qn qc i1 i2 _ (H_h.out.later (by have := hb3; exact this.alloc this.size _)) hs H_hA.out H_hi1.out H_hi2.out).mono ?_
    rintro e w4 ⟨a3, c3, a4, c4, rfl, l2, hc4⟩
    have hb4 : Below w.heap.size w w4 := bchain (by repeat' (first | with_reducible exact hb3 | with_reducible refine Below.drew ?_ | with_reducible refine below_drewN ?_ _ | with_reducible refine Below.alloc ?_ (by have := hb3.size; first | (simp; done) | (simp; omega) | omega) _ | with_reducible refine Below.setCell ?_ (by first | (simp; done) | (simp; omega) | omega) _)) hc4
    have hst4 : Below w3.heap.size w3 w4 := bchain (by repeat' (first | with_reducible exact Below.refl _ _ | with_reducible refine Below.drew ?_ | with_reducible refine below_drewN ?_ _ | with_reducible refine Below.alloc ?_ (by first | (simp; done) | (simp; omega) | omega) _ | with_reducible refine Below.setCell ?_ (by first | (simp; done) | (simp; omega) | omega) _)) hc4
    replace O_0 := cell_later hst4 O_0
    replace O_1 := cell_later hst4 O_1
    replace O_2 := cell_later hst4 O_2
    replace O_l := Nat.lt_of_lt_of_le O_l hst4.size
    replace U_0 := cell_later hst4 U_0
    replace U_1 := cell_later hst4 U_1
    replace U_2 := cell_later hst4 U_2
    replace U_l := Nat.lt_of_lt_of_le U_l hst4.size
    have A_0 : w4.cell? ⟨w3.heap.size, 0, none⟩ = some (.int .i64 W2) := (hc4.cell (p := ⟨w3.heap.size, 0, none⟩) (by first | (simp; done) | (simp; omega))).trans (by first | (simp; done) | go_simp)
    have A_1 : w4.cell? ⟨w3.heap.size, 1, none⟩ = some (.slice a1 i1 c1) := (hc4.cell (p := ⟨w3.heap.size, 1, none⟩) (by first | (simp; done) | (simp; omega))).trans (by first | (simp; done) | go_simp)
    have A_2 : w4.cell? ⟨w3.heap.size, 2, none⟩ = some (.slice a2 i2 c2) := (hc4.cell (p := ⟨w3.heap.size, 2, none⟩) (by first | (simp; done) | (simp; omega))).trans (by first | (simp; done) | go_simp)
    have A_l : w3.heap.size < w4.heap.size := Nat.lt_of_lt_of_le (by first | (simp; done) | (simp; omega)) hc4.size
    replace hU := hU.later hst4
    replace l1 := l1.later hst4
    clear hst4
    clear hc4 hb3
    go_wp2_with fail
    with_reducible refine (free_r W t rs q W3 rs3 q3 ts3 er3 u1 u2 rn v1 qn v2 j1 j2 j3 _ (hU.later (below_alloc _ _)) hs H_hF.out H_hj1.out H_hj2.out H_hj3.out).mono ?_
    rintro e w5 ⟨b1, d1, b2, d2, b3, d3, rfl, l3, r3, hc5⟩
    have hb5 : Below w.heap.size w w5 := bchain (by repeat' (first | with_reducible exact hb4 | with_reducible refine Below.drew ?_ | with_reducible refine below_drewN ?_ _ | with_reducible refine Below.alloc ?_ (by have := hb4.size; first | (simp; done) | (simp; omega) | omega) _ | with_reducible refine Below.setCell ?_ (by first | (simp; done) | (simp; omega) | omega) _)) hc5
    have hst5 : Below w4.heap.size w4 w5 := bchain (by repeat' (first | with_reducible exact Below.refl _ _ | with_reducible refine Below.drew ?_ | with_reducible refine below_drewN ?_ _ | with_reducible refine Below.alloc ?_ (by first | (simp; done) | (simp; omega) | omega) _ | with_reducible refine Below.setCell ?_ (by first | (simp; done) | (simp; omega) | omega) _)) hc5
    replace O_0 := cell_later hst5 O_0
    replace O_1 := cell_later hst5 O_1
    replace O_2 := cell_later hst5 O_2
    replace O_l := Nat.lt_of_lt_of_le O_l hst5.size
    replace U_0 := cell_later hst5 U_0
    replace U_1 := cell_later hst5 U_1
    replace U_2 := cell_later hst5 U_2
    replace U_l := Nat.lt_of_lt_of_le U_l hst5.size
    replace A_0 := cell_later hst5 A_0
    replace A_1 := cell_later hst5 A_1
    replace A_2 := cell_later hst5 A_2
    replace A_l := Nat.lt_of_lt_of_le A_l hst5.size
    have B_0 : w5.cell? ⟨w4.heap.size, 0, none⟩ = some (.int .i64 W2) := (hc5.cell (p := ⟨w4.heap.size, 0, none⟩) (by first | (simp; done) | (simp; omega))).trans (by first | (simp; done) | go_simp)
    have B_1 : w5.cell? ⟨w4.heap.size, 1, none⟩ = some (.slice a3 i1 c3) := (hc5.cell (p := ⟨w4.heap.size, 1, none⟩) (by first | (simp; done) | (simp; omega))).trans (by first | (simp; done) | go_simp)
    have B_2 : w5.cell? ⟨w4.heap.size, 2, none⟩ = some (.slice a4 i2 c4) := (hc5.cell (p := ⟨w4.heap.size, 2, none⟩) (by first | (simp; done) | (simp; omega))).trans (by first | (simp; done) | go_simp)
    have B_l : w4.heap.size < w5.heap.size := Nat.lt_of_lt_of_le (by first | (simp; done) | (simp; omega)) hc5.size
    replace hU := hU.later hst5
    replace l1 := l1.later hst5
    replace l2 := l2.later hst5
    clear hst5
    clear hc5 hb4
    go_wp2_with fail
    with_reducible refine (rfree_r W t rs q W3 rs3 q3 ts3 er3 ra qa rn rc qn qc j1 j2 j3 _ (H_h.out.later (by have := hb5; exact this.alloc this.size _)) hs H_hF.out H_hj1.out H_hj2.out H_hj3.out).mono ?_
    rintro e w6 ⟨b4, d4, b5, d5, b6, d6, rfl, l4, r4, hc6⟩
    have hb6 : Below w.heap.size w w6 := bchain (by repeat' (first | with_reducible exact hb5 | with_reducible refine Below.drew ?_ | with_reducible refine below_drewN ?_ _ | with_reducible refine Below.alloc ?_ (by have := hb5.size; first | (simp; done) | (simp; omega) | omega) _ | with_reducible refine Below.setCell ?_ (by first | (simp; done) | (simp; omega) | omega) _)) hc6
    have hst6 : Below w5.heap.size w5 w6 := bchain (by repeat' (first | with_reducible exact Below.refl _ _ | with_reducible refine Below.drew ?_ | with_reducible refine below_drewN ?_ _ | with_reducible refine Below.alloc ?_ (by first | (simp; done) | (simp; omega) | omega) _ | with_reducible refine Below.setCell ?_ (by first | (simp; done) | (simp; omega) | omega) _)) hc6
    replace O_0 := cell_later hst6 O_0
    replace O_1 := cell_later hst6 O_1
    replace O_2 := cell_later hst6 O_2
    replace O_l := Nat.lt_of_lt_of_le O_l hst6.size
    replace U_0 := cell_later hst6 U_0
    replace U_1 := cell_later hst6 U_1
    replace U_2 := cell_later hst6 U_2
    replace U_l := Nat.lt_of_lt_of_le U_l hst6.size
    replace A_0 := cell_later hst6 A_0
    replace A_1 := cell_later hst6 A_1
    replace A_2 := cell_later hst6 A_2
    replace A_l := Nat.lt_of_lt_of_le A_l hst6.size
    replace B_0 := cell_later hst6 B_0
    replace B_1 := cell_later hst6 B_1
    replace B_2 := cell_later hst6 B_2
    replace B_l := Nat.lt_of_lt_of_le B_l hst6.size
    have C_0 : w6.cell? ⟨w5.heap.size, 0, none⟩ = some (.int .i64 W3) := (hc6.cell (p := ⟨w5.heap.size, 0, none⟩) (by first | (simp; done) | (simp; omega))).trans (by first | (simp; done) | go_simp)
    have C_1 : w6.cell? ⟨w5.heap.size, 1, none⟩ = some (.slice b1 j1 d1) := (hc6.cell (p := ⟨w5.heap.size, 1, none⟩) (by first | (simp; done) | (simp; omega))).trans (by first | (simp; done) | go_simp)
    have C_2 : w6.cell? ⟨w5.heap.size, 2, none⟩ = some (.slice b2 j2 d2) := (hc6.cell (p := ⟨w5.heap.size, 2, none⟩) (by first | (simp; done) | (simp; omega))).trans (by first | (simp; done) | go_simp)
    have C_l : w5.heap.size < w6.heap.size := Nat.lt_of_lt_of_le (by first | (simp; done) | (simp; omega)) hc6.size
    replace hU := hU.later hst6
    replace l1 := l1.later hst6
    replace l2 := l2.later hst6
    replace l3 := l3.later hst6
    replace r3 := r3.later hst6
    clear hst6
    clear hc6 hb5
    go_wp2_with fail
    with_reducible refine (same_self W2 rs2 q2 a1 a2 a3 a4 i1 c1 i2 c2 c3 c4 _ (l1.later (below_alloc _ _)) (l2.later (below_alloc _ _))).mono ?_
    rintro e w7 ⟨rfl, hc7⟩
    have hb7 : Below w.heap.size w w7 := bchain (by repeat' (first | with_reducible exact hb6 | with_reducible refine Below.drew ?_ | with_reducible refine below_drewN ?_ _ | with_reducible refine Below.alloc ?_ (by have := hb6.size; first | (simp; done) | (simp; omega) | omega) _ | with_reducible refine Below.setCell ?_ (by first | (simp; done) | (simp; omega) | omega) _)) hc7
    have hst7 : Below w6.heap.size w6 w7 := bchain (by repeat' (first | with_reducible exact Below.refl _ _ | with_reducible refine Below.drew ?_ | with_reducible refine below_drewN ?_ _ | with_reducible refine Below.alloc ?_ (by first | (simp; done) | (simp; omega) | omega) _ | with_reducible refine Below.setCell ?_ (by first | (simp; done) | (simp; omega) | omega) _)) hc7
    replace O_0 := cell_later hst7 O_0
    replace O_1 := cell_later hst7 O_1
    replace O_2 := cell_later hst7 O_2
    replace O_l := Nat.lt_of_lt_of_le O_l hst7.size
    replace U_0 := cell_later hst7 U_0
    replace U_1 := cell_later hst7 U_1
    replace U_2 := cell_later hst7 U_2
    replace U_l := Nat.lt_of_lt_of_le U_l hst7.size
    replace A_0 := cell_later hst7 A_0
    replace A_1 := cell_later hst7 A_1
    replace A_2 := cell_later hst7 A_2
    replace A_l := Nat.lt_of_lt_of_le A_l hst7.size
    replace B_0 := cell_later hst7 B_0
    replace B_1 := cell_later hst7 B_1
    replace B_2 := cell_later hst7 B_2
    replace B_l := Nat.lt_of_lt_of_le B_l hst7.size
    replace C_0 := cell_later hst7 C_0
    replace C_1 := cell_later hst7 C_1
    replace C_2 := cell_later hst7 C_2
    replace C_l := Nat.lt_of_lt_of_le C_l hst7.size
    have D_0 : w7.cell? ⟨w6.heap.size, 0, none⟩ = some (.int .i64 W3) := (hc7.cell (p := ⟨w6.heap.size, 0, none⟩) (by first | (simp; done) | (simp; omega))).trans (by first | (simp; done) | go_simp)
    have D_1 : w7.cell? ⟨w6.heap.size, 1, none⟩ = some (.slice b4 j1 d4) := (hc7.cell (p := ⟨w6.heap.size, 1, none⟩) (by first | (simp; done) | (simp; omega))).trans (by first | (simp; done) | go_simp)
    have D_2 : w7.cell? ⟨w6.heap.size, 2, none⟩ = some (.slice b5 j2 d5) := (hc7.cell (p := ⟨w6.heap.size, 2, none⟩) (by first | (simp; done) | (simp; omega))).trans (by first | (simp; done) | go_simp)
    have D_l : w6.heap.size < w7.heap.size := Nat.lt_of_lt_of_le (by first | (simp; done) | (simp; omega)) hc7.size
    replace hU := hU.later hst7
    replace l1 := l1.later hst7
    replace l2 := l2.later hst7
    replace l3 := l3.later hst7
    replace r3 := r3.later hst7
    replace l4 := l4.later hst7
    replace r4 := r4.later hst7
    clear hst7
    clear hc7 hb6
    go_wp2_with fail
    with_reducible refine (same_self W3 rs3 q3 b1 b2 b4 b5 j1 d1 j2 d2 d4 d5 _ l3 l4).mono ?_
    rintro e w8 ⟨rfl, hc8⟩
    have hb8 : Below w.heap.size w w8 := bchain (by repeat' (first | with_reducible exact hb7 | with_reducible refine Below.drew ?_ | with_reducible refine below_drewN ?_ _ | with_reducible refine Below.alloc ?_ (by have := hb7.size; first | (simp; done) | (simp; omega) | omega) _ | with_reducible refine Below.setCell ?_ (by first | (simp; done) | (simp; omega) | omega) _)) hc8
    have hst8 : Below w7.heap.size w7 w8 := bchain (by repeat' (first | with_reducible exact Below.refl _ _ | with_reducible refine Below.drew ?_ | with_reducible refine below_drewN ?_ _ | with_reducible refine Below.alloc ?_ (by first | (simp; done) | (simp; omega) | omega) _ | with_reducible refine Below.setCell ?_ (by first | (simp; done) | (simp; omega) | omega) _)) hc8
    replace O_0 := cell_later hst8 O_0
    replace O_1 := cell_later hst8 O_1
    replace O_2 := cell_later hst8 O_2
    replace O_l := Nat.lt_of_lt_of_le O_l hst8.size
    replace U_0 := cell_later hst8 U_0
    replace U_1 := cell_later hst8 U_1
    replace U_2 := cell_later hst8 U_2
    replace U_l := Nat.lt_of_lt_of_le U_l hst8.size
    replace A_0 := cell_later hst8 A_0
    replace A_1 := cell_later hst8 A_1
    replace A_2 := cell_later hst8 A_2
    replace A_l := Nat.lt_of_lt_of_le A_l hst8.size
    replace B_0 := cell_later hst8 B_0
    replace B_1 := cell_later hst8 B_1
    replace B_2 := cell_later hst8 B_2
    replace B_l := Nat.lt_of_lt_of_le B_l hst8.size
    replace C_0 := cell_later hst8 C_0
    replace C_1 := cell_later hst8 C_1
    replace C_2 := cell_later hst8 C_2
    replace C_l := Nat.lt_of_lt_of_le C_l hst8.size
    replace D_0 := cell_later hst8 D_0
    replace D_1 := cell_later hst8 D_1
    replace D_2 := cell_later hst8 D_2
    replace D_l := Nat.lt_of_lt_of_le D_l hst8.size
    replace hU := hU.later hst8
    replace l1 := l1.later hst8
    replace l2 := l2.later hst8
    replace l3 := l3.later hst8
    replace r3 := r3.later hst8
    replace l4 := l4.later hst8
    replace r4 := r4.later hst8
    clear hst8
    clear hc8 hb7
    go_wp2_with fail
    with_reducible refine (sameInts_self ts3 b3 b6 j3 d3 d6 _ H_hj3.out hj3m r3 r4).mono ?_
    rintro e w9 ⟨rfl, hc9⟩
    have hb9 : Below w.heap.size w w9 := bchain (by repeat' (first | with_reducible exact hb8 | with_reducible refine Below.drew ?_ | with_reducible refine below_drewN ?_ _ | with_reducible refine Below.alloc ?_ (by have := hb8.size; first | (simp; done) | (simp; omega) | omega) _ | with_reducible refine Below.setCell ?_ (by first | (simp; done) | (simp; omega) | omega) _)) hc9
    have hst9 : Below w8.heap.size w8 w9 := bchain (by repeat' (first | with_reducible exact Below.refl _ _ | with_reducible refine Below.drew ?_ | with_reducible refine below_drewN ?_ _ | with_reducible refine Below.alloc ?_ (by first | (simp; done) | (simp; omega) | omega) _ | with_reducible refine Below.setCell ?_ (by first | (simp; done) | (simp; omega) | omega) _)) hc9
    replace O_0 := cell_later hst9 O_0
    replace O_1 := cell_later hst9 O_1
    replace O_2 := cell_later hst9 O_2
    replace O_l := Nat.lt_of_lt_of_le O_l hst9.size
    replace U_0 := cell_later hst9 U_0
    replace U_1 := cell_later hst9 U_1
    replace U_2 := cell_later hst9 U_2
    replace U_l := Nat.lt_of_lt_of_le U_l hst9.size
    replace A_0 := cell_later hst9 A_0
    replace A_1 := cell_later hst9 A_1
    replace A_2 := cell_later hst9 A_2
    replace A_l := Nat.lt_of_lt_of_le A_l hst9.size
    replace B_0 := cell_later hst9 B_0
    replace B_1 := cell_later hst9 B_1
    replace B_2 := cell_later hst9 B_2
    replace B_l := Nat.lt_of_lt_of_le B_l hst9.size
    replace C_0 := cell_later hst9 C_0
    replace C_1 := cell_later hst9 C_1
    replace C_2 := cell_later hst9 C_2
    replace C_l := Nat.lt_of_lt_of_le C_l hst9.size
    replace D_0 := cell_later hst9 D_0
    replace D_1 := cell_later hst9 D_1
    replace D_2 := cell_later hst9 D_2
    replace D_l := Nat.lt_of_lt_of_le D_l hst9.size
    replace hU := hU.later hst9
    replace l1 := l1.later hst9
    replace l2 := l2.later hst9
    replace l3 := l3.later hst9
    replace r3 := r3.later hst9
    replace l4 := l4.later hst9
    replace r4 := r4.later hst9
    clear hst9
    clear hc9 hb8
    go_wp2_with fail
    with_reducible refine (leave_r W t rs q W4 rs4 q4 ts4 er4 u1 u2 rn v1 qn v2 k1 k2 k3 _ hU hs H_hV.out H_hk1.out H_hk2.out H_hk3.out).mono ?_
    rintro e w10 ⟨e1, f1, e2, f2, e3, f3, rfl, l5, r5, hc10⟩
    have hb10 : Below w.heap.size w w10 := bchain (by repeat' (first | with_reducible exact hb9 | with_reducible refine Below.drew ?_ | with_reducible refine below_drewN ?_ _ | with_reducible refine Below.alloc ?_ (by have := hb9.size; first | (simp; done) | (simp; omega) | omega) _ | with_reducible refine Below.setCell ?_ (by first | (simp; done) | (simp; omega) | omega) _)) hc10
    have hst10 : Below w9.heap.size w9 w10 := bchain (by repeat' (first | with_reducible exact Below.refl _ _ | with_reducible refine Below.drew ?_ | with_reducible refine below_drewN ?_ _ | with_reducible refine Below.alloc ?_ (by first | (simp; done) | (simp; omega) | omega) _ | with_reducible refine Below.setCell ?_ (by first | (simp; done) | (simp; omega) | omega) _)) hc10
    replace O_0 := cell_later hst10 O_0
    replace O_1 := cell_later hst10 O_1
    replace O_2 := cell_later hst10 O_2
    replace O_l := Nat.lt_of_lt_of_le O_l hst10.size
    replace U_0 := cell_later hst10 U_0
    replace U_1 := cell_later hst10 U_1
    replace U_2 := cell_later hst10 U_2
    replace U_l := Nat.lt_of_lt_of_le U_l hst10.size
    replace A_0 := cell_later hst10 A_0
    replace A_1 := cell_later hst10 A_1
    replace A_2 := cell_later hst10 A_2
    replace A_l := Nat.lt_of_lt_of_le A_l hst10.size
    replace B_0 := cell_later hst10 B_0
    replace B_1 := cell_later hst10 B_1
    replace B_2 := cell_later hst10 B_2
    replace B_l := Nat.lt_of_lt_of_le B_l hst10.size
    replace C_0 := cell_later hst10 C_0
    replace C_1 := cell_later hst10 C_1
    replace C_2 := cell_later hst10 C_2
    replace C_l := Nat.lt_of_lt_of_le C_l hst10.size
    replace D_0 := cell_later hst10 D_0
    replace D_1 := cell_later hst10 D_1
    replace D_2 := cell_later hst10 D_2
    replace D_l := Nat.lt_of_lt_of_le D_l hst10.size
    replace hU := hU.later hst10
    replace l1 := l1.later hst10
    replace l2 := l2.later hst10
    replace l3 := l3.later hst10
    replace r3 := r3.later hst10
    replace l4 := l4.later hst10
    replace r4 := r4.later hst10
    clear hst10
    clear hc10 hb9
    go_wp2_with fail
    with_reducible refine (rleave_r W t rs q W4 rs4 q4 ts4 er4 ra qa rn rc qn qc k1 k2 k3 _ (H_h.out.later (by have := hb10; exact this.alloc this.size _)) hs H_hV.out H_hk1.out H_hk2.out H_hk3.out).mono ?_
    rintro e w11 ⟨e4, f4, e5, f5, e6, f6, rfl, l6, r6, hc11⟩
    have hb11 : Below w.heap.size w w11 := bchain (by repeat' (first | with_reducible exact hb10 | with_reducible refine Below.drew ?_ | with_reducible refine below_drewN ?_ _ | with_reducible refine Below.alloc ?_ (by have := hb10.size; first | (simp; done) | (simp; omega) | omega) _ | with_reducible refine Below.setCell ?_ (by first | (simp; done) | (simp; omega) | omega) _)) hc11
    have hst11 : Below w10.heap.size w10 w11 := bchain (by repeat' (first | with_reducible exact Below.refl _ _ | with_reducible refine Below.drew ?_ | with_reducible refine below_drewN ?_ _ | with_reducible refine Below.alloc ?_ (by first | (simp; done) | (simp; omega) | omega) _ | with_reducible refine Below.setCell ?_ (by first | (simp; done) | (simp; omega) | omega) _)) hc11
    replace O_0 := cell_later hst11 O_0
    replace O_1 := cell_later hst11 O_1
    replace O_2 := cell_later hst11 O_2
    replace O_l := Nat.lt_of_lt_of_le O_l hst11.size
    replace U_0 := cell_later hst11 U_0
    replace U_1 := cell_later hst11 U_1
    replace U_2 := cell_later hst11 U_2
    replace U_l := Nat.lt_of_lt_of_le U_l hst11.size
    replace A_0 := cell_later hst11 A_0
    replace A_1 := cell_later hst11 A_1
    replace A_2 := cell_later hst11 A_2
    replace A_l := Nat.lt_of_lt_of_le A_l hst11.size
    replace B_0 := cell_later hst11 B_0
    replace B_1 := cell_later hst11 B_1
    replace B_2 := cell_later hst11 B_2
    replace B_l := Nat.lt_of_lt_of_le B_l hst11.size
    replace C_0 := cell_later hst11 C_0
    replace C_1 := cell_later hst11 C_1
    replace C_2 := cell_later hst11 C_2
    replace C_l := Nat.lt_of_lt_of_le C_l hst11.size
    replace D_0 := cell_later hst11 D_0
    replace D_1 := cell_later hst11 D_1
    replace D_2 := cell_later hst11 D_2
    replace D_l := Nat.lt_of_lt_of_le D_l hst11.size
    have E_0 : w11.cell? ⟨w10.heap.size, 0, none⟩ = some (.int .i64 W4) := (hc11.cell (p := ⟨w10.heap.size, 0, none⟩) (by first | (simp; done) | (simp; omega))).trans (by first | (simp; done) | go_simp)
    have E_1 : w11.cell? ⟨w10.heap.size, 1, none⟩ = some (.slice e1 k1 f1) := (hc11.cell (p := ⟨w10.heap.size, 1, none⟩) (by first | (simp; done) | (simp; omega))).trans (by first | (simp; done) | go_simp)
    have E_2 : w11.cell? ⟨w10.heap.size, 2, none⟩ = some (.slice e2 k2 f2) := (hc11.cell (p := ⟨w10.heap.size, 2, none⟩) (by first | (simp; done) | (simp; omega))).trans (by first | (simp; done) | go_simp)
    have E_l : w10.heap.size < w11.heap.size := Nat.lt_of_lt_of_le (by first | (simp; done) | (simp; omega)) hc11.size
    replace hU := hU.later hst11
    replace l1 := l1.later hst11
    replace l2 := l2.later hst11
    replace l3 := l3.later hst11
    replace r3 := r3.later hst11
    replace l4 := l4.later hst11
    replace r4 := r4.later hst11
    replace l5 := l5.later hst11
    replace r5 := r5.later hst11
    clear hst11
    clear hc11 hb10
    go_wp2_with fail
    with_reducible refine (holds_q W t rs q y er5 u1 u2 rn v1 qn v2 _ (hU.later (below_alloc _ _)) H_hH.out).mono ?_
    rintro e w12 ⟨rfl, hc12⟩
    have hb12 : Below w.heap.size w w12 := bchain (by repeat' (first | with_reducible exact hb11 | with_reducible refine Below.drew ?_ | with_reducible refine below_drewN ?_ _ | with_reducible refine Below.alloc ?_ (by have := hb11.size; first | (simp; done) | (simp; omega) | omega) _ | with_reducible refine Below.setCell ?_ (by first | (simp; done) | (simp; omega) | omega) _)) hc12
    have hst12 : Below w11.heap.size w11 w12 := bchain (by repeat' (first | with_reducible exact Below.refl _ _ | with_reducible refine Below.drew ?_ | with_reducible refine below_drewN ?_ _ | with_reducible refine Below.alloc ?_ (by first | (simp; done) | (simp; omega) | omega) _ | with_reducible refine Below.setCell ?_ (by first | (simp; done) | (simp; omega) | omega) _)) hc12
    replace O_0 := cell_later hst12 O_0
    replace O_1 := cell_later hst12 O_1
    replace O_2 := cell_later hst12 O_2
    replace O_l := Nat.lt_of_lt_of_le O_l hst12.size
    replace U_0 := cell_later hst12 U_0
    replace U_1 := cell_later hst12 U_1
    replace U_2 := cell_later hst12 U_2
    replace U_l := Nat.lt_of_lt_of_le U_l hst12.size
    replace A_0 := cell_later hst12 A_0
    replace A_1 := cell_later hst12 A_1
    replace A_2 := cell_later hst12 A_2
    replace A_l := Nat.lt_of_lt_of_le A_l hst12.size
    replace B_0 := cell_later hst12 B_0
    replace B_1 := cell_later hst12 B_1
    replace B_2 := cell_later hst12 B_2
    replace B_l := Nat.lt_of_lt_of_le B_l hst12.size
    replace C_0 := cell_later hst12 C_0
    replace C_1 := cell_later hst12 C_1
    replace C_2 := cell_later hst12 C_2
    replace C_l := Nat.lt_of_lt_of_le C_l hst12.size
    replace D_0 := cell_later hst12 D_0
    replace D_1 := cell_later hst12 D_1
    replace D_2 := cell_later hst12 D_2
    replace D_l := Nat.lt_of_lt_of_le D_l hst12.size
    replace E_0 := cell_later hst12 E_0
    replace E_1 := cell_later hst12 E_1
    replace E_2 := cell_later hst12 E_2
    replace E_l := Nat.lt_of_lt_of_le E_l hst12.size
    have F_0 : w12.cell? ⟨w11.heap.size, 0, none⟩ = some (.int .i64 W4) := (hc12.cell (p := ⟨w11.heap.size, 0, none⟩) (by first | (simp; done) | (simp; omega))).trans (by first | (simp; done) | go_simp)
    have F_1 : w12.cell? ⟨w11.heap.size, 1, none⟩ = some (.slice e4 k1 f4) := (hc12.cell (p := ⟨w11.heap.size, 1, none⟩) (by first | (simp; done) | (simp; omega))).trans (by first | (simp; done) | go_simp)
    have F_2 : w12.cell? ⟨w11.heap.size, 2, none⟩ = some (.slice e5 k2 f5) := (hc12.cell (p := ⟨w11.heap.size, 2, none⟩) (by first | (simp; done) | (simp; omega))).trans (by first | (simp; done) | go_simp)
    have F_l : w11.heap.size < w12.heap.size := Nat.lt_of_lt_of_le (by first | (simp; done) | (simp; omega)) hc12.size
    replace hU := hU.later hst12
    replace l1 := l1.later hst12
    replace l2 := l2.later hst12
    replace l3 := l3.later hst12
    replace r3 := r3.later hst12
    replace l4 := l4.later hst12
    replace r4 := r4.later hst12
    replace l5 := l5.later hst12
    replace r5 := r5.later hst12
    replace l6 := l6.later hst12
    replace r6 := r6.later hst12
    clear hst12
    clear hc12 hb11
    go_wp2_with fail
    with_reducible refine (rholds_q W t rs q y er5 ra qa rn rc qn qc _ (H_h.out.later hb12) H_hH.out).mono ?_
    rintro e w13 ⟨rfl, hc13⟩
    have hb13 : Below w.heap.size w w13 := bchain (by repeat' (first | with_reducible exact hb12 | with_reducible refine Below.drew ?_ | with_reducible refine below_drewN ?_ _ | with_reducible refine Below.alloc ?_ (by have := hb12.size; first | (simp; done) | (simp; omega) | omega) _ | with_reducible refine Below.setCell ?_ (by first | (simp; done) | (simp; omega) | omega) _)) hc13
    have hst13 : Below w12.heap.size w12 w13 := bchain (by repeat' (first | with_reducible exact Below.refl _ _ | with_reducible refine Below.drew ?_ | with_reducible refine below_drewN ?_ _ | with_reducible refine Below.alloc ?_ (by first | (simp; done) | (simp; omega) | omega) _ | with_reducible refine Below.setCell ?_ (by first | (simp; done) | (simp; omega) | omega) _)) hc13
    replace O_0 := cell_later hst13 O_0
    replace O_1 := cell_later hst13 O_1
    replace O_2 := cell_later hst13 O_2
    replace O_l := Nat.lt_of_lt_of_le O_l hst13.size
    replace U_0 := cell_later hst13 U_0
    replace U_1 := cell_later hst13 U_1
    replace U_2 := cell_later hst13 U_2
    replace U_l := Nat.lt_of_lt_of_le U_l hst13.size
    replace A_0 := cell_later hst13 A_0
    replace A_1 := cell_later hst13 A_1
    replace A_2 := cell_later hst13 A_2
    replace A_l := Nat.lt_of_lt_of_le A_l hst13.size
    replace B_0 := cell_later hst13 B_0
    replace B_1 := cell_later hst13 B_1
    replace B_2 := cell_later hst13 B_2
    replace B_l := Nat.lt_of_lt_of_le B_l hst13.size
    replace C_0 := cell_later hst13 C_0
    replace C_1 := cell_later hst13 C_1
    replace C_2 := cell_later hst13 C_2
    replace C_l := Nat.lt_of_lt_of_le C_l hst13.size
    replace D_0 := cell_later hst13 D_0
    replace D_1 := cell_later hst13 D_1
    replace D_2 := cell_later hst13 D_2
    replace D_l := Nat.lt_of_lt_of_le D_l hst13.size
    replace E_0 := cell_later hst13 E_0
    replace E_1 := cell_later hst13 E_1
    replace E_2 := cell_later hst13 E_2
    replace E_l := Nat.lt_of_lt_of_le E_l hst13.size
    replace F_0 := cell_later hst13 F_0
    replace F_1 := cell_later hst13 F_1
    replace F_2 := cell_later hst13 F_2
    replace F_l := Nat.lt_of_lt_of_le F_l hst13.size
    replace hU := hU.later hst13
    replace l1 := l1.later hst13
    replace l2 := l2.later hst13
    replace l3 := l3.later hst13
    replace r3 := r3.later hst13
    replace l4 := l4.later hst13
    replace r4 := r4.later hst13
    replace l5 := l5.later hst13
    replace r5 := r5.later hst13
    replace l6 := l6.later hst13
    replace r6 := r6.later hst13
    clear hst13
    clear hc13 hb12
    go_wp2_with fail
    refine wp_gen fun w14 hc14 => ?_
    have hb14 : Below w.heap.size w w14 := bchain (by repeat' (first | with_reducible exact hb13 | with_reducible refine Below.drew ?_ | with_reducible refine below_drewN ?_ _ | with_reducible refine Below.alloc ?_ (by have := hb13.size; first | (simp; done) | (simp; omega) | omega) _ | with_reducible refine Below.setCell ?_ (by first | (simp; done) | (simp; omega) | omega) _)) hc14
    have hst14 : Below w13.heap.size w13 w14 := bchain (by repeat' (first | with_reducible exact Below.refl _ _ | with_reducible refine Below.drew ?_ | with_reducible refine below_drewN ?_ _ | with_reducible refine Below.alloc ?_ (by first | (simp; done) | (simp; omega) | omega) _ | with_reducible refine Below.setCell ?_ (by first | (simp; done) | (simp; omega) | omega) _)) hc14
    replace O_0 := cell_later hst14 O_0
    replace O_1 := cell_later hst14 O_1
    replace O_2 := cell_later hst14 O_2
    replace O_l := Nat.lt_of_lt_of_le O_l hst14.size
    replace U_0 := cell_later hst14 U_0
    replace U_1 := cell_later hst14 U_1
    replace U_2 := cell_later hst14 U_2
    replace U_l := Nat.lt_of_lt_of_le U_l hst14.size
    replace A_0 := cell_later hst14 A_0
    replace A_1 := cell_later hst14 A_1
    replace A_2 := cell_later hst14 A_2
    replace A_l := Nat.lt_of_lt_of_le A_l hst14.size
    replace B_0 := cell_later hst14 B_0
    replace B_1 := cell_later hst14 B_1
    replace B_2 := cell_later hst14 B_2
    replace B_l := Nat.lt_of_lt_of_le B_l hst14.size
    replace C_0 := cell_later hst14 C_0
    replace C_1 := cell_later hst14 C_1
    replace C_2 := cell_later hst14 C_2
    replace C_l := Nat.lt_of_lt_of_le C_l hst14.size
    replace D_0 := cell_later hst14 D_0
    replace D_1 := cell_later hst14 D_1
    replace D_2 := cell_later hst14 D_2
    replace D_l := Nat.lt_of_lt_of_le D_l hst14.size
    replace E_0 := cell_later hst14 E_0
    replace E_1 := cell_later hst14 E_1
    replace E_2 := cell_later hst14 E_2
    replace E_l := Nat.lt_of_lt_of_le E_l hst14.size
    replace F_0 := cell_later hst14 F_0
    replace F_1 := cell_later hst14 F_1
    replace F_2 := cell_later hst14 F_2
    replace F_l := Nat.lt_of_lt_of_le F_l hst14.size
    replace hU := hU.later hst14
    replace l1 := l1.later hst14
    replace l2 := l2.later hst14
    replace l3 := l3.later hst14
    replace r3 := r3.later hst14
    replace l4 := l4.later hst14
    replace r4 := r4.later hst14
    replace l5 := l5.later hst14
    replace r5 := r5.later hst14
    replace l6 := l6.later hst14
    replace r6 := r6.later hst14
    clear hst14
    have KO_0 := cell_on O_0
    have KO_1 := cell_on O_1
    have KO_2 := cell_on O_2
    have KU_0 := cell_on U_0
    have KU_1 := cell_on U_1
    have KU_2 := cell_on U_2
    have KE_0 := cell_on E_0
    have KE_1 := cell_on E_1
    have KE_2 := cell_on E_2
    have KF_0 := cell_on F_0
    have KF_1 := cell_on F_1
    have KF_2 := cell_on F_2
    have hO := H_h.out.later hb14
    refine wp_region_on (by kernel_rfl) (lexB_of (by kernel_rfl)) ?_
    iterate 1 (go_big_quiet_step (fail))
    go_big_quiet_step ((go_at_call 24; with_reducible exact calls_on (check_q W ck rs q u1 u2 rn v1 qn v2 _ (hU.later (below_later _ _)) H_hck.out)))
    iterate 1 (go_big_quiet_step (fail))
    go_big_quiet_step ((go_at_call 10; with_reducible exact calls_on (rcheck_q W ck rs q ra qa rn rc qn qc _ (hO.later (below_later _ _)) H_hck.out)))
    iterate 2 (go_big_quiet_step (fail))
    go_big_quiet_step ((go_at_call 25; with_reducible exact calls_on (New_any _)))
    go_big_quiet_step ((go_at_call 26; with_reducible exact calls_on (rNew_any _)))
    go_big_quiet_step ((go_at_call 16; with_reducible exact calls_on (same_self (-1) [] [] none none none none 0 0 0 0 0 0 _ (.empty _) (.empty _))))
    iterate 4 (go_big_quiet_step (fail))
    go_big_quiet_step ((go_at_call 16; with_reducible exact calls_on (same_self W4 rs4 q4 e1 e2 e4 e5 k1 f1 k2 f2 f4 f5 _ (l5.later (below_later _ _)) (l6.later (below_later _ _)))))
    iterate 4 (go_big_quiet_step (fail))
    go_big_quiet_step ((go_at_call 20; with_reducible exact calls_on (sameInts_self ts4 e3 e6 k3 f3 f6 _ H_hk3.out hk3m (r5.later (below_later _ _)) (r6.later (below_later _ _)))))
    iterate 19 (go_big_quiet_step (fail))
    go_big_quiet_step ((go_at_call 16; with_reducible exact calls_on (same_self W rs q u1 u2 ra qa rn v1 qn v2 rc qc _ (hU.later (below_later _ _)) (hO.later (below_later _ _)))))
    iterate 2 (go_big_quiet_step (fail))
    refine wpQuiet_nil ?_
    intro w15 hc15
    clear KO_0 KO_1 KO_2 KU_0 KU_1 KU_2 KE_0 KE_1 KE_2 KF_0 KF_1 KF_2
    have hb15 : Below w.heap.size w w15 := bchain (by repeat' (first | with_reducible exact hb14 | with_reducible refine Below.drew ?_ | with_reducible refine below_drewN ?_ _ | with_reducible refine Below.alloc ?_ (by have := hb14.size; first | (simp; done) | (simp; omega) | omega) _ | with_reducible refine Below.setCell ?_ (by first | (simp; done) | (simp; omega) | omega) _)) hc15
    have hst15 : Below w14.heap.size w14 w15 := bchain (by repeat' (first | with_reducible exact Below.refl _ _ | with_reducible refine Below.drew ?_ | with_reducible refine below_drewN ?_ _ | with_reducible refine Below.alloc ?_ (by first | (simp; done) | (simp; omega) | omega) _ | with_reducible refine Below.setCell ?_ (by first | (simp; done) | (simp; omega) | omega) _)) hc15
    replace O_0 := cell_later hst15 O_0
    replace O_1 := cell_later hst15 O_1
    replace O_2 := cell_later hst15 O_2
    replace O_l := Nat.lt_of_lt_of_le O_l hst15.size
    replace U_0 := cell_later hst15 U_0
    replace U_1 := cell_later hst15 U_1
    replace U_2 := cell_later hst15 U_2
    replace U_l := Nat.lt_of_lt_of_le U_l hst15.size
    replace A_0 := cell_later hst15 A_0
    replace A_1 := cell_later hst15 A_1
    replace A_2 := cell_later hst15 A_2
    replace A_l := Nat.lt_of_lt_of_le A_l hst15.size
    replace B_0 := cell_later hst15 B_0
    replace B_1 := cell_later hst15 B_1
    replace B_2 := cell_later hst15 B_2
    replace B_l := Nat.lt_of_lt_of_le B_l hst15.size
    replace C_0 := cell_later hst15 C_0
    replace C_1 := cell_later hst15 C_1
    replace C_2 := cell_later hst15 C_2
    replace C_l := Nat.lt_of_lt_of_le C_l hst15.size
    replace D_0 := cell_later hst15 D_0
    replace D_1 := cell_later hst15 D_1
    replace D_2 := cell_later hst15 D_2
    replace D_l := Nat.lt_of_lt_of_le D_l hst15.size
    replace E_0 := cell_later hst15 E_0
    replace E_1 := cell_later hst15 E_1
    replace E_2 := cell_later hst15 E_2
    replace E_l := Nat.lt_of_lt_of_le E_l hst15.size
    replace F_0 := cell_later hst15 F_0
    replace F_1 := cell_later hst15 F_1
    replace F_2 := cell_later hst15 F_2
    replace F_l := Nat.lt_of_lt_of_le F_l hst15.size
    replace hU := hU.later hst15
    replace l1 := l1.later hst15
    replace l2 := l2.later hst15
    replace l3 := l3.later hst15
    replace r3 := r3.later hst15
    replace l4 := l4.later hst15
    replace r4 := r4.later hst15
    replace l5 := l5.later hst15
    replace r5 := r5.later hst15
    replace l6 := l6.later hst15
    replace r6 := r6.later hst15
    clear hst15
    go_wp2_with fail
    go_ret
    exact ⟨rfl, by repeat' (first | with_reducible exact hb15 | with_reducible refine Below.drew ?_ | with_reducible refine below_drewN ?_ _ | with_reducible refine Below.alloc ?_ (by have := hb15.size; first | (simp; done) | (simp; omega) | omega) _ | with_reducible refine Below.setCell ?_ (by first | (simp; done) | (simp; omega) | omega) _)⟩

end Go.Proofs.Ytnkbbfeaodppgaa
