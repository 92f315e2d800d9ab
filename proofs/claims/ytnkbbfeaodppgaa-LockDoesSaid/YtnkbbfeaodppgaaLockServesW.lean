/- The law LockServes. -/
import Derived.Test.YtnkbbfeaodppgaaLockServesP
namespace Go.Proofs.Ytnkbbfeaodppgaa
set_option linter.unusedSimpArgs false
set_option linter.unusedVariables false
set_option linter.unnecessarySimpa false
open Go.RowKit

theorem free_f (W t : Int) (rs : List Int) (q : Waits) (W' : Int) (rs' : List Int) (q' : Waits) (ts : List Int) (er : Int) (ra qa : Option Addr) (rn rc qn qc m1 m2 m3 : Nat) (w : World) (h : LockIn w rs q ra qa rn qn) (hmx : rn + qn ≤ 999999) (hr : freeZ W rs q t = ((W', rs', q'), ts, er)) (h1 : m1 = rs'.length) (h2 : m2 = q'.length) (h3 : m3 = ts.length) :
    Calls Try.prog 12 #[.agg #[.int .i64 W, .slice ra rn rc, .slice qa qn qc], .int .i64 t] w fun e w' =>
      ∃ a1 c1 a2 c2 a3 c3, e = .returned (.tuple #[.agg #[.int .i64 W', .slice a1 m1 c1, .slice a2 m2 c2], .slice a3 m3 c3, .int .i64 er]) ∧ LockIn w' rs' q' a1 a2 m1 m2 ∧ CellsAt w' a3 (ts.map (Value.int .i64)) ∧ (∀ B, B < w.heap.size → Far a1 B) ∧ (∀ B, B < w.heap.size → Far a2 B) ∧ Below w.heap.size w w' := by
  refine (Free_any W t rs q ra qa rn rc qn qc w h hmx).mono ?_
  rintro e w' ⟨a1, n1, c1, a2, n2, c2, a3, n3, c3, rfl, hl, hb⟩
  have f1 := hl.l.f1
  have f2 := hl.l.f2
  obtain ⟨rfl, rfl, rfl, k1, k2⟩ := out_r hl hr h1 h2 h3
  rw [hr]
  exact ⟨a1, c1, a2, c2, a3, c3, rfl, k1, k2, f1, f2, hb⟩
/-- Cells that are not in a block. -/
def Farc (cs : List Value) (a : Option Addr) (B : Nat) : Prop := cs = [] ∨ Far a B
theorem Farc.of_size {w : World} {cs : List Value} {a : Option Addr} (h : CellsAt w a cs) {B : Nat} (hB : w.heap.size ≤ B) : Farc cs a B := by
  rcases h with h | ⟨b, o, rfl, h⟩
  · exact .inl h
  · cases cs with
    | nil => exact .inl rfl
    | cons x r =>
      right
      intro ad e
      cases e
      have := World.block_lt_of_cell? _ _ (h 0 x rfl)
      simp only at this ⊢
      omega
theorem CellsAt.grownC {w w1 : World} {a sa : Option Addr} {cs : List Value} {k c : Nat} (h : CellsAt w a cs) (hg : w.grownBy w1 (Value.slice sa k c).ownBlock) (hf : ∀ bd, sa = some bd → Farc cs a bd.block) : CellsAt w1 a cs := by
  cases sa with
  | none => exact cellsAt_grown h hg (fun ad _ e => by cases e)
  | some bd =>
    rcases hf bd rfl with e | e
    · exact .inl e
    · exact cellsAt_grown h hg (fun ad e1 e2 => e ad e1 (by simpa [Value.ownBlock] using e2))
structure SSt (w wr : World) (nb : Nat) (oc : List Value) (W : Int) (rs : List Int) (q : Waits) (ord : List Int) (ra : Option Addr) (n c : Nat) (qa : Option Addr) (m d : Nat) (sa : Option Addr) (k e : Nat) : Prop where
  hb : Below w.heap.size w wr
  O : Blk wr w.heap.size 25 oc
  N : Blk wr nb 25 [.int .i64 W, .slice ra n c, .slice qa m d]
  L : LockIn wr rs q ra qa n m
  ord : OwnX wr (nb + 1) 3 1 (.slice sa k e) k (ord.map (Value.int .i64))

/- A round that frees: $1 the task, $2 the readers' address, $3 the writer. -/


set_option maxRecDepth 100000 in
set_option maxHeartbeats 10000000 in
theorem serves_walk (W : Int) (rs : List Int) (q : Waits) (ra : Option Addr) (rn rc : Nat) (qa : Option Addr) (qn qc : Nat) (w : World) (h0 : LkIn w rs q ra rn qa qn) :
    Calls Try.prog 3 #[.agg #[.int .i64 W, .slice ra rn rc, .slice qa qn qc]] w fun e w' =>
      e = .returned (.bool true) ∧ Below w.heap.size w w' := by
  obtain ⟨i0, hi, hz0, hz1, hz2⟩ := info_parts info_i64
  cases hg : greatB rn qn with
  | true =>
    have H_h0 := Box.mk h0
    have H_hg := Box.mk hg
    clear h0 hg
    go_enter Try.func3, Try.ntmps3
    have hb0 := Below.refl w.heap.size w
    go_wp2_with fail
    with_reducible refine (alive_any _).mono ?_
    rintro e w1 ⟨rfl, hc1⟩
    have hb1 : Below w.heap.size w w1 := bchain (by repeat' (first | with_reducible exact hb0 | with_reducible refine Below.drew ?_ | with_reducible refine below_drewN ?_ _ | with_reducible refine Below.alloc ?_ (by have := hb0.size; first | (simp; done) | (simp; omega) | omega) _ | with_reducible refine Below.setCell ?_ (by first | (simp; done) | (simp; omega) | omega) _)) hc1
    have O_0 : w1.cell? ⟨w.heap.size, 0, none⟩ = some (.int .i64 W) := (hc1.cell (p := ⟨w.heap.size, 0, none⟩) (by first | (simp; done) | (simp; omega))).trans (by first | (simp; done) | go_simp)
    have O_1 : w1.cell? ⟨w.heap.size, 1, none⟩ = some (.slice ra rn rc) := (hc1.cell (p := ⟨w.heap.size, 1, none⟩) (by first | (simp; done) | (simp; omega))).trans (by first | (simp; done) | go_simp)
    have O_2 : w1.cell? ⟨w.heap.size, 2, none⟩ = some (.slice qa qn qc) := (hc1.cell (p := ⟨w.heap.size, 2, none⟩) (by first | (simp; done) | (simp; omega))).trans (by first | (simp; done) | go_simp)
    have O_l : w.heap.size < w1.heap.size := Nat.lt_of_lt_of_le (by first | (simp; done) | (simp; omega)) hc1.size
    clear hc1 hb0
    go_wp2_with fail
    with_reducible refine (great_any W ra qa rn rc qn qc _).mono ?_
    rintro e w2 ⟨rfl, hc2⟩
    have hb2 : Below w.heap.size w w2 := bchain (by repeat' (first | with_reducible exact hb1 | with_reducible refine Below.drew ?_ | with_reducible refine below_drewN ?_ _ | with_reducible refine Below.alloc ?_ (by have := hb1.size; first | (simp; done) | (simp; omega) | omega) _ | with_reducible refine Below.setCell ?_ (by first | (simp; done) | (simp; omega) | omega) _)) hc2
    have hst2 : Below w1.heap.size w1 w2 := bchain (by repeat' (first | with_reducible exact Below.refl _ _ | with_reducible refine Below.drew ?_ | with_reducible refine below_drewN ?_ _ | with_reducible refine Below.alloc ?_ (by first | (simp; done) | (simp; omega) | omega) _ | with_reducible refine Below.setCell ?_ (by first | (simp; done) | (simp; omega) | omega) _)) hc2
    replace O_0 := cell_later hst2 O_0
    replace O_1 := cell_later hst2 O_1
    replace O_2 := cell_later hst2 O_2
    replace O_l := Nat.lt_of_lt_of_le O_l hst2.size
    clear hst2
    clear hc2 hb1
    rw [H_hg.out]
    go_wp2_with fail
    go_ret
    exact ⟨rfl, by repeat' (first | with_reducible exact hb2 | with_reducible refine Below.drew ?_ | with_reducible refine below_drewN ?_ _ | with_reducible refine Below.alloc ?_ (by have := hb2.size; first | (simp; done) | (simp; omega) | omega) _ | with_reducible refine Below.setCell ?_ (by first | (simp; done) | (simp; omega) | omega) _)⟩
  | false =>
    have hlim : rn ≤ 100 ∧ qn ≤ 100 := by unfold greatB at hg; simp at hg; exact hg
    obtain ⟨hl1, hl2⟩ := hlim
    have h := h0.lock hl1 hl2
    have hC := fun W' h => rCheck_any W rs q ra qa rn rc qn qc W' h
    rcases lockErr_cases W rs q with he | he
    · rw [he] at hC
      have H_h0 := Box.mk h0
      have H_hg := Box.mk hg
      have H_h := Box.mk h
      have H_hC := Box.mk hC
      have H_he := Box.mk he
      clear h0 hg h hC he
      go_enter Try.func3, Try.ntmps3
      have hb0 := Below.refl w.heap.size w
      go_wp2_with fail
      with_reducible refine (alive_any _).mono ?_
      rintro e w1 ⟨rfl, hc1⟩
      have hb1 : Below w.heap.size w w1 := bchain (by repeat' (first | with_reducible exact hb0 | with_reducible refine Below.drew ?_ | with_reducible refine below_drewN ?_ _ | with_reducible refine Below.alloc ?_ (by have := hb0.size; first | (simp; done) | (simp; omega) | omega) _ | with_reducible refine Below.setCell ?_ (by first | (simp; done) | (simp; omega) | omega) _)) hc1
      have O_0 : w1.cell? ⟨w.heap.size, 0, none⟩ = some (.int .i64 W) := (hc1.cell (p := ⟨w.heap.size, 0, none⟩) (by first | (simp; done) | (simp; omega))).trans (by first | (simp; done) | go_simp)
      have O_1 : w1.cell? ⟨w.heap.size, 1, none⟩ = some (.slice ra rn rc) := (hc1.cell (p := ⟨w.heap.size, 1, none⟩) (by first | (simp; done) | (simp; omega))).trans (by first | (simp; done) | go_simp)
      have O_2 : w1.cell? ⟨w.heap.size, 2, none⟩ = some (.slice qa qn qc) := (hc1.cell (p := ⟨w.heap.size, 2, none⟩) (by first | (simp; done) | (simp; omega))).trans (by first | (simp; done) | go_simp)
      have O_l : w.heap.size < w1.heap.size := Nat.lt_of_lt_of_le (by first | (simp; done) | (simp; omega)) hc1.size
      clear hc1 hb0
      go_wp2_with fail
      with_reducible refine (great_any W ra qa rn rc qn qc _).mono ?_
      rintro e w2 ⟨rfl, hc2⟩
      have hb2 : Below w.heap.size w w2 := bchain (by repeat' (first | with_reducible exact hb1 | with_reducible refine Below.drew ?_ | with_reducible refine below_drewN ?_ _ | with_reducible refine Below.alloc ?_ (by have := hb1.size; first | (simp; done) | (simp; omega) | omega) _ | with_reducible refine Below.setCell ?_ (by first | (simp; done) | (simp; omega) | omega) _)) hc2
      have hst2 : Below w1.heap.size w1 w2 := bchain (by repeat' (first | with_reducible exact Below.refl _ _ | with_reducible refine Below.drew ?_ | with_reducible refine below_drewN ?_ _ | with_reducible refine Below.alloc ?_ (by first | (simp; done) | (simp; omega) | omega) _ | with_reducible refine Below.setCell ?_ (by first | (simp; done) | (simp; omega) | omega) _)) hc2
      replace O_0 := cell_later hst2 O_0
      replace O_1 := cell_later hst2 O_1
      replace O_2 := cell_later hst2 O_2
      replace O_l := Nat.lt_of_lt_of_le O_l hst2.size
      clear hst2
      clear hc2 hb1
      rw [H_hg.out]
      go_wp2_with fail
      with_reducible refine (H_hC.out _ (H_h.out.later hb2)).mono ?_
      rintro e w3 ⟨rfl, hc3⟩
      have hb3 : Below w.heap.size w w3 := bchain (by repeat' (first | with_reducible exact hb2 | with_reducible refine Below.drew ?_ | with_reducible refine below_drewN ?_ _ | with_reducible refine Below.alloc ?_ (by have := hb2.size; first | (simp; done) | (simp; omega) | omega) _ | with_reducible refine Below.setCell ?_ (by first | (simp; done) | (simp; omega) | omega) _)) hc3
      have hst3 : Below w2.heap.size w2 w3 := bchain (by repeat' (first | with_reducible exact Below.refl _ _ | with_reducible refine Below.drew ?_ | with_reducible refine below_drewN ?_ _ | with_reducible refine Below.alloc ?_ (by first | (simp; done) | (simp; omega) | omega) _ | with_reducible refine Below.setCell ?_ (by first | (simp; done) | (simp; omega) | omega) _)) hc3
      replace O_0 := cell_later hst3 O_0
      replace O_1 := cell_later hst3 O_1
      replace O_2 := cell_later hst3 O_2
      replace O_l := Nat.lt_of_lt_of_le O_l hst3.size
      clear hst3
      clear hc3 hb2
      go_wp2_with fail
      go_ret
      exact ⟨rfl, by repeat' (first | with_reducible exact hb3 | with_reducible refine Below.drew ?_ | with_reducible refine below_drewN ?_ _ | with_reducible refine Below.alloc ?_ (by have := hb3.size; first | (simp; done) | (simp; omega) | omega) _ | with_reducible refine Below.setCell ?_ (by first | (simp; done) | (simp; omega) | omega) _)⟩
    · rw [he] at hC
      have hv := LV.of he
      have hcn := cnt_le hv
      have hql := h.qlen
      have H_h0 := Box.mk h0
      have H_hg := Box.mk hg
      have H_h := Box.mk h
      have H_hC := Box.mk hC
      have H_he := Box.mk he
      have H_hv := Box.mk hv
      have H_hql := Box.mk hql
      clear h0 hg h hC he hv hql
      go_enter Try.func3, Try.ntmps3
      have hb0 := Below.refl w.heap.size w
      go_wp2_with fail
      refine (alive_any _).mono ?_
      rintro e w1 ⟨rfl, hc1⟩
      have hO1 : Blk w1 w.heap.size 25 [.int .i64 W, .slice ra rn rc, .slice qa qn qc] := Blk.later (Blk.new w _ [.int .i64 W, .slice ra rn rc, .slice qa qn qc] _ rfl) hc1
      have hb1 : Below w.heap.size w w1 := bchain (by repeat' (first | with_reducible exact hb0 | with_reducible refine Below.drew ?_ | with_reducible refine below_drewN ?_ _ | with_reducible refine Below.alloc ?_ (by have := hb0.size; first | (simp; done) | (simp; omega) | omega) _ | with_reducible refine Below.setCell ?_ (by first | (simp; done) | (simp; omega) | omega) _)) hc1
      have O_0 : w1.cell? ⟨w.heap.size, 0, none⟩ = some (.int .i64 W) := (hc1.cell (p := ⟨w.heap.size, 0, none⟩) (by first | (simp; done) | (simp; omega))).trans (by first | (simp; done) | go_simp)
      have O_1 : w1.cell? ⟨w.heap.size, 1, none⟩ = some (.slice ra rn rc) := (hc1.cell (p := ⟨w.heap.size, 1, none⟩) (by first | (simp; done) | (simp; omega))).trans (by first | (simp; done) | go_simp)
      have O_2 : w1.cell? ⟨w.heap.size, 2, none⟩ = some (.slice qa qn qc) := (hc1.cell (p := ⟨w.heap.size, 2, none⟩) (by first | (simp; done) | (simp; omega))).trans (by first | (simp; done) | go_simp)
      have O_l : w.heap.size < w1.heap.size := Nat.lt_of_lt_of_le (by first | (simp; done) | (simp; omega)) hc1.size
      clear hc1
      go_wp2_with fail
      with_reducible refine (great_any W ra qa rn rc qn qc _).mono ?_
      rintro e w2 ⟨rfl, hc2⟩
      have hb2 : Below w.heap.size w w2 := bchain (by repeat' (first | with_reducible exact hb1 | with_reducible refine Below.drew ?_ | with_reducible refine below_drewN ?_ _ | with_reducible refine Below.alloc ?_ (by have := hb1.size; first | (simp; done) | (simp; omega) | omega) _ | with_reducible refine Below.setCell ?_ (by first | (simp; done) | (simp; omega) | omega) _)) hc2
      have hst2 : Below w1.heap.size w1 w2 := bchain (by repeat' (first | with_reducible exact Below.refl _ _ | with_reducible refine Below.drew ?_ | with_reducible refine below_drewN ?_ _ | with_reducible refine Below.alloc ?_ (by first | (simp; done) | (simp; omega) | omega) _ | with_reducible refine Below.setCell ?_ (by first | (simp; done) | (simp; omega) | omega) _)) hc2
      replace O_0 := cell_later hst2 O_0
      replace O_1 := cell_later hst2 O_1
      replace O_2 := cell_later hst2 O_2
      replace O_l := Nat.lt_of_lt_of_le O_l hst2.size
      replace hO1 := hO1.later hst2
      clear hst2
      clear hc2 hb1
      rw [H_hg.out]
      go_wp2_with fail
      with_reducible refine (H_hC.out _ (H_h.out.later hb2)).mono ?_
      rintro e w3 ⟨rfl, hc3⟩
      have hb3 : Below w.heap.size w w3 := bchain (by repeat' (first | with_reducible exact hb2 | with_reducible refine Below.drew ?_ | with_reducible refine below_drewN ?_ _ | with_reducible refine Below.alloc ?_ (by have := hb2.size; first | (simp; done) | (simp; omega) | omega) _ | with_reducible refine Below.setCell ?_ (by first | (simp; done) | (simp; omega) | omega) _)) hc3
      have hst3 : Below w2.heap.size w2 w3 := bchain (by repeat' (first | with_reducible exact Below.refl _ _ | with_reducible refine Below.drew ?_ | with_reducible refine below_drewN ?_ _ | with_reducible refine Below.alloc ?_ (by first | (simp; done) | (simp; omega) | omega) _ | with_reducible refine Below.setCell ?_ (by first | (simp; done) | (simp; omega) | omega) _)) hc3
      replace O_0 := cell_later hst3 O_0
      replace O_1 := cell_later hst3 O_1
      replace O_2 := cell_later hst3 O_2
      replace O_l := Nat.lt_of_lt_of_le O_l hst3.size
      replace hO1 := hO1.later hst3
      clear hst3
      clear hc3 hb2
      go_wp2_with fail
      with_reducible refine (rtwin_any W rs q ra qa rn rc qn qc _ (H_h.out.later hb3)).mono ?_
      rintro e w4 ⟨a1, c1, a2, c2, rfl, o3, hc4⟩
      have hb4 : Below w.heap.size w w4 := bchain (by repeat' (first | with_reducible exact hb3 | with_reducible refine Below.drew ?_ | with_reducible refine below_drewN ?_ _ | with_reducible refine Below.alloc ?_ (by have := hb3.size; first | (simp; done) | (simp; omega) | omega) _ | with_reducible refine Below.setCell ?_ (by first | (simp; done) | (simp; omega) | omega) _)) hc4
      have hst4 : Below w3.heap.size w3 w4 := bchain (by repeat' (first | with_reducible exact Below.refl _ _ | with_reducible refine Below.drew ?_ | with_reducible refine below_drewN ?_ _ | with_reducible refine Below.alloc ?_ (by first | (simp; done) | (simp; omega) | omega) _ | with_reducible refine Below.setCell ?_ (by first | (simp; done) | (simp; omega) | omega) _)) hc4
      replace O_0 := cell_later hst4 O_0
      replace O_1 := cell_later hst4 O_1
      replace O_2 := cell_later hst4 O_2
      replace O_l := Nat.lt_of_lt_of_le O_l hst4.size
      replace hO1 := hO1.later hst4
      clear hst4
      clear hc4 hb3
      have hL4 : LockIn w4 rs q a1 a2 rn qn := ⟨o3.rlen, o3.qlen, o3.rs.cells.2, o3.qs.cells.2, by omega, by omega⟩
      have hO4 := hO1
      clear o3
      clear hO1
      have hwnb : w.heap.size < w4.heap.size := hO4.lt
      have hO5 : Blk (w4.alloc (.cells #[.int .i64 W, .slice a1 rn c1, .slice a2 qn c2] 25)) w.heap.size 25 [.int .i64 W, .slice ra rn rc, .slice qa qn qc] := hO4.alloc _
      go_wp2_with fail
      go_loopw [4, 6] (fun s i wr => ∃ W1 rs1 q1 ord ra1 n c qa1 m d sa k sc, ∃ j : Nat, s = .slice sa k sc ∧ i = .int .i64 j ∧ SSt w wr w4.heap.size [.int .i64 W, .slice ra rn rc, .slice qa qn qc] W1 rs1 q1 ord ra1 n c qa1 m d sa k sc ∧ Box (LV W1 rs1 q1 ∧ ord ++ q1.map (·.1) = q.map (·.1) ∧ j + cntL W1 rs1 q1 ≤ 12)) (fun _ i _ => 24 - (intOf i).toNat)
      case atStart =>
        exact ⟨W, rs, q, [], a1, rn, c1, a2, qn, c2, none, 0, 0, 0, rfl, rfl, ⟨(by repeat' (first | with_reducible exact hb4 | with_reducible refine Below.drew ?_ | with_reducible refine below_drewN ?_ _ | with_reducible refine Below.alloc ?_ (by have := hb4.size; first | (simp; done) | (simp; omega) | omega) _ | with_reducible refine Below.setCell ?_ (by first | (simp; done) | (simp; omega) | omega) _)), hO5, Blk.new _ _ _ _ rfl, hL4.later (below_alloc _ _), OwnX.nil _ _ _ _⟩, Box.mk ⟨H_hv.out, rfl, by omega⟩⟩
      case round =>
        obtain ⟨W1, rs1, q1, ord, ra1, n, c, qa1, m, d, sa, k, sc, j, rfl, rfl, hS, HB⟩ := hrel
        clear O_0 O_1 O_2 O_l hL4 hO5 hO4
        generalize w4.heap.size = nb at *
        obtain ⟨hbw, hO, hN, hL, hout⟩ := hS
        have HB' := HB.out
        clear HB
        have hj12 : j ≤ 12 := by have := HB'.2.2; omega
        have hjI : (j : Int) < 24 := by omega
        have nbl := hN.lt
        by_cases hW1 : W1 = -1
        · subst hW1
          cases hrs1 : rs1 with
          | nil =>
            subst hrs1
            have hq1 := idle_q HB'.1 rfl
            subst hq1
            obtain rfl : n = 0 := hL.rlen
            obtain rfl : m = 0 := hL.qlen
            have hord : ord = q.map (·.1) := by have := HB'.2.1; simpa using this
            have hkq : k = qn := by
              have h1 := hout.len
              rw [List.length_map, hord, List.length_map, ← H_hql.out] at h1
              omega
            subst hkq
            clear HB'
            have H_hord := Box.mk hord
            clear hord
            obtain ⟨N_0, N_1, N_2, N_f0, N_f1, N_f2, N_l⟩ := blk3 hN
            obtain ⟨O_0, O_1, O_2, _, _, _, O_l⟩ := blk3 hO
            obtain ⟨wy, hwy⟩ : ∃ wy, wy = wr := ⟨wr, rfl⟩
            subst hwy
            go_wp2_with fail
            clear N_0 N_1 N_2 N_f0 N_f1 N_f2 N_l O_0 O_1 O_2 O_l hL hN
            go_loopw [11] (fun i wv => ∃ p : Nat, p ≤ k ∧ i = .int .i64 p ∧ Below wy.heap.size wy wv) (fun i _ => k - (intOf i).toNat)
            case atStart => exact ⟨0, Nat.zero_le _, rfl, Below.refl _ _⟩
            case round =>
              obtain ⟨p, hp, rfl, hbv⟩ := hrel
              have hbx := bchain hbw hbv
              have hOv := hO.later hbv
              obtain ⟨O_0, O_1, O_2, _, _, _, O_l⟩ := blk3 hOv
              by_cases hpk : p < k
              · have hpI : (p : Int) < (k : Int) := by omega
                have hpl : p < q.length := by have := H_hql.out; omega
                obtain ⟨b1, o1, rfl, cl⟩ := (hout.later hbv).cellsAt.int (by have := hout.len; rw [List.length_map] at this; omega)
                replace cl := cl p (by have := hout.len; rw [List.length_map] at this; omega)
                rw [H_hord.out, tk_map] at cl
                obtain ⟨b2, o2, rfl, h1, h2, hcell⟩ := (H_h.out.later hbx).qs.waits (by omega)
                have ck := (hcell p hpl).1
                clear hcell h1 h2
                obtain ⟨x, hx⟩ : ∃ x, tk q p = x := ⟨_, rfl⟩
                rw [hx] at cl ck
                have hxx : (x != x) = false := by simp
                have H_hx := Box.mk hx
                have H_hpl := Box.mk hpl
                clear hx hpl
                go_wp2_with fail
                go_quiet (fail)
                go_wp2_with fail
                go_roundw
                case rel => exact ⟨p + 1, by omega, by first | rfl | go_num, below_drewN hbv _⟩
                case measure => simp [intOf]; omega
              · have hpI : (k : Int) ≤ (p : Int) := by omega
                go_wp2_with fail
                go_ret
                exact ⟨rfl, hbx⟩
          | cons x r =>
            have hstep := free_step (t := x) HB'.1 (.inr ⟨rfl, by rw [hrs1]; exact List.mem_cons_self ..⟩)
            have hx0 := (taskB_iff.1 (HB'.1.lp.tk x (by rw [hrs1]; exact List.mem_cons_self ..))).1
            have hx0' : ¬ x < 0 := by omega
            have hnn : n = r.length + 1 := by have := hL.rlen; rw [hrs1] at this; exact this
            have hnI : (0 : Int) < (n : Int) := by omega
            have hnN : 0 < n := by omega
            obtain ⟨b, o, rfl, cl⟩ := hL.rs.int (by rw [hrs1]; simp)
            replace cl := cl 0 (by rw [hrs1]; simp)
            have hg0 : rs1[0]?.getD 0 = x := by rw [hrs1]; rfl
            rw [hg0, Nat.add_zero] at cl
            have H_hrs1 := Box.mk hrs1
            have H_hnn := Box.mk hnn
            have H_hg0 := Box.mk hg0
            clear hrs1 hnn hg0
            obtain ⟨W2, rs2, q2, ts, hz, hv2, hts, hcn⟩ := hstep
            obtain ⟨e1, he1⟩ : ∃ e1, e1 = rs2.length := ⟨_, rfl⟩
            obtain ⟨e2, he2⟩ : ∃ e2, e2 = q2.length := ⟨_, rfl⟩
            obtain ⟨e3, he3⟩ : ∃ e3, e3 = ts.length := ⟨_, rfl⟩
            have hml := hL.qlen
            have hnl := hL.rlen
            have hsum : e3 + e2 = m := by
              have := congrArg List.length hts
              rw [List.length_append, List.length_map, List.length_map] at this
              omega
            have hc12 := cnt_le HB'.1
            have hc13 := cnt_le hv2
            have hm12 : m ≤ 12 := by unfold cntL at hc12; omega
            have hn12 : n ≤ 12 := by unfold cntL at hc12; omega
            have hq2 : e2 ≤ 12 := by omega
            have hr2 : e1 ≤ 12 := by unfold cntL at hc13; omega
            have hmm : (m : Int) - (e3 : Int) = (e2 : Int) := by omega
            have hF := fun wd h => free_f (-1) x rs1 q1 W2 rs2 q2 ts 0 (some ⟨b, o, none⟩) qa1 n c m d e1 e2 e3 wd h (by omega) hz he1 he2 he3
            have hC := fun a1 c1 a2 c2 wd h => rCheck_any W2 rs2 q2 a1 a2 e1 c1 e2 c2 wd h
            rw [hv2.err] at hC
            have HN : Box (LV W2 rs2 q2 ∧ ord ++ ts ++ q2.map (·.1) = q.map (·.1) ∧ j + 1 + cntL W2 rs2 q2 ≤ 12) := Box.mk ⟨hv2, by rw [List.append_assoc, hts]; exact HB'.2.1, by have := HB'.2.2; omega⟩
            have hol := hout.len
            rw [List.length_map] at hol
            have hord : (ord ++ ts).length = k + e3 := by rw [List.length_append, ← he3]; omega
            have hall : k + m ≤ 100 := by
              have := congrArg List.length HB'.2.1
              rw [List.length_append, List.length_map, List.length_map, ← hml] at this
              have := H_h.out.qlen
              omega
            clear HB' hz hv2 hts hcn hc12 hc13 hml hnl
            have H_he1 := Box.mk he1
            have H_he2 := Box.mk he2
            have H_he3 := Box.mk he3
            have H_hF := Box.mk hF
            have H_hC := Box.mk hC
            have H_hol := Box.mk hol
            have H_hord := Box.mk hord
            clear he1 he2 he3 hF hC hol hord
            obtain ⟨N_0, N_1, N_2, N_f0, N_f1, N_f2, N_l⟩ := blk3 hN
            go_wp2_with fail
            with_reducible refine (H_hF.out _ hL).mono ?_
            rintro e w11 ⟨b1, d1, b2, d2, b3, d3, rfl, L11, k11, fr1, fr2, hc11⟩
            have O11 := hO.later hc11
            have N11 := hN.later hc11
            have o11 := hout.later hc11
            have hb11 := bchain hbw hc11
            have z11 := hc11.size
            have oad := hout.addr
            clear N_0 N_1 N_2 N_f0 N_f1 N_f2 N_l hO hN hL hout hc11
            try clear cl
            obtain ⟨N_0, N_1, N_2, N_f0, N_f1, N_f2, N_l⟩ := blk3 N11
            go_wp2_with fail
            with_reducible refine (H_hC.out b1 d1 b2 d2 _ (L11.later (below_alloc _ _))).mono ?_
            rintro e w12 ⟨rfl, hc12'⟩
            have hc12 := bchain (below_alloc _ _) hc12'
            have X12 := Blk.later (Blk.new w11 _ [.int .i64 W2, .slice b1 e1 d1, .slice b2 e2 d2] _ rfl) hc12'
            have O12 := O11.later hc12
            have N12 := N11.later hc12
            have o12 := o11.later hc12
            have L12 := L11.later hc12
            have k12 := k11.later hc12
            have hb12 := bchain hb11 hc12
            have z12 := hc12.size
            clear N_0 N_1 N_2 N_f0 N_f1 N_f2 N_l O11 N11 L11 o11 k11 hc12 hc12'
            obtain ⟨N_0, N_1, N_2, N_f0, N_f1, N_f2, N_l⟩ := blk3 N12
            obtain ⟨X_0, X_1, X_2, _, _, _, X_l⟩ := blk3 X12
            go_wp2_with (at_builtin; refine stop ?_)
            refine Stop.go ?_
            refine wpList_append_x _ rfl _ _ 22 rfl (nb + 1) 3 i0 (.int .i64 0) 1 8 Try.underlying22 hi hz0 hz1 hz2 rfl (by decide) (.slice sa k sc) k _ rfl o12 b3 e3 d3 _ rfl (by rw [List.length_map, Nat.mul_one]; exact H_he3.out.symm) k12 (ints_oneCell _ _) (by unfold maxLen; omega) (by omega) (by omega) ?_
            intro a13 c13 w13 o13 hg hk13
            have hb13 : Below w.heap.size w w13 := below_grownX hb12 hg hb12.size (fun p h => by have := (o12.lt p h).1; omega)
            have O13 := blk_grown O12 hg (own_not fun ad e => by have := (oad ad e).1; omega)
            have N13 := blk_grown N12 hg (own_not fun ad e => by have := (oad ad e).1; omega)
            have X13 := blk_grown X12 hg (own_not fun ad e => by have := (oad ad e).2; omega)
            have r13 := L12.rs.grownC hg (fun bd e => .inr (fr1 _ (oad bd e).2))
            have q13 := L12.qs.grownC hg (fun bd e => .inr (fr2 _ (oad bd e).2))
            have f1 := fr1 nb nbl
            have f2 := fr2 nb nbl
            rw [← List.map_append] at o13
            clear N_0 N_1 N_2 N_f0 N_f1 N_f2 N_l X_0 X_1 X_2 X_l O12 N12 X12 o12 k12 hg hk13
            obtain ⟨N_0, N_1, N_2, N_f0, N_f1, N_f2, N_l⟩ := blk3 N13
            obtain ⟨X_0, X_1, X_2, _, _, _, X_l⟩ := blk3 X13
            have L13l := L12.rlen
            have L13q := L12.qlen
            have H_L13l := Box.mk L13l
            have H_L13q := Box.mk L13q
            clear L13l L13q
            clear L12
            go_wp2_with fail
            go_roundw
            case rel =>
              exact ⟨W2, rs2, q2, ord ++ ts, b1, e1, d1, b2, e2, d2, a13, k + e3, c13, j + 1, rfl, by first | rfl | go_num, ⟨((hb13.setCell (Nat.le_of_lt hwnb) _).setCell (Nat.le_of_lt hwnb) _).setCell (Nat.le_of_lt hwnb) _, ((O13.setFar (p := ⟨nb, 0, none⟩) (by simp; omega) _).setFar (p := ⟨nb, 1, none⟩) (by simp; omega) _).setFar (p := ⟨nb, 2, none⟩) (by simp; omega) _, ((N13.set 0 _).set 1 _).set 2 _, ⟨H_L13l.out, H_L13q.out, r13.far3 f1, q13.far3 f2, by omega, by omega⟩, ((o13.setCell (by simp) _).setCell (by simp) _).setCell (by simp) _⟩, HN⟩
            case measure => simp [intOf]; omega
        · obtain ⟨hwt, hrs⟩ := HB'.1.hw.resolve_left hW1
          have hstep := free_step (t := W1) HB'.1 (.inl ⟨hW1, rfl⟩)
          have hx0 := (taskB_iff.1 hwt).1
          have hx0' : ¬ W1 < 0 := by omega
          have H_hwt := Box.mk hwt
          have H_hrs := Box.mk hrs
          clear hwt hrs
          clear hW1
          obtain ⟨W2, rs2, q2, ts, hz, hv2, hts, hcn⟩ := hstep
          obtain ⟨e1, he1⟩ : ∃ e1, e1 = rs2.length := ⟨_, rfl⟩
          obtain ⟨e2, he2⟩ : ∃ e2, e2 = q2.length := ⟨_, rfl⟩
          obtain ⟨e3, he3⟩ : ∃ e3, e3 = ts.length := ⟨_, rfl⟩
          have hml := hL.qlen
          have hnl := hL.rlen
          have hsum : e3 + e2 = m := by
            have := congrArg List.length hts
            rw [List.length_append, List.length_map, List.length_map] at this
            omega
          have hc12 := cnt_le HB'.1
          have hc13 := cnt_le hv2
          have hm12 : m ≤ 12 := by unfold cntL at hc12; omega
          have hn12 : n ≤ 12 := by unfold cntL at hc12; omega
          have hq2 : e2 ≤ 12 := by omega
          have hr2 : e1 ≤ 12 := by unfold cntL at hc13; omega
          have hmm : (m : Int) - (e3 : Int) = (e2 : Int) := by omega
          have hF := fun wd h => free_f W1 W1 rs1 q1 W2 rs2 q2 ts 0 ra1 qa1 n c m d e1 e2 e3 wd h (by omega) hz he1 he2 he3
          have hC := fun a1 c1 a2 c2 wd h => rCheck_any W2 rs2 q2 a1 a2 e1 c1 e2 c2 wd h
          rw [hv2.err] at hC
          have HN : Box (LV W2 rs2 q2 ∧ ord ++ ts ++ q2.map (·.1) = q.map (·.1) ∧ j + 1 + cntL W2 rs2 q2 ≤ 12) := Box.mk ⟨hv2, by rw [List.append_assoc, hts]; exact HB'.2.1, by have := HB'.2.2; omega⟩
          have hol := hout.len
          rw [List.length_map] at hol
          have hord : (ord ++ ts).length = k + e3 := by rw [List.length_append, ← he3]; omega
          have hall : k + m ≤ 100 := by
            have := congrArg List.length HB'.2.1
            rw [List.length_append, List.length_map, List.length_map, ← hml] at this
            have := H_h.out.qlen
            omega
          clear HB' hz hv2 hts hcn hc12 hc13 hml hnl
          have H_he1 := Box.mk he1
          have H_he2 := Box.mk he2
          have H_he3 := Box.mk he3
          have H_hF := Box.mk hF
          have H_hC := Box.mk hC
          have H_hol := Box.mk hol
          have H_hord := Box.mk hord
          clear he1 he2 he3 hF hC hol hord
          obtain ⟨N_0, N_1, N_2, N_f0, N_f1, N_f2, N_l⟩ := blk3 hN
          go_wp2_with fail
          with_reducible refine (H_hF.out _ hL).mono ?_
          rintro e w11 ⟨b1, d1, b2, d2, b3, d3, rfl, L11, k11, fr1, fr2, hc11⟩
          have O11 := hO.later hc11
          have N11 := hN.later hc11
          have o11 := hout.later hc11
          have hb11 := bchain hbw hc11
          have z11 := hc11.size
          have oad := hout.addr
          clear N_0 N_1 N_2 N_f0 N_f1 N_f2 N_l hO hN hL hout hc11
          try clear cl
          obtain ⟨N_0, N_1, N_2, N_f0, N_f1, N_f2, N_l⟩ := blk3 N11
          go_wp2_with fail
          with_reducible refine (H_hC.out b1 d1 b2 d2 _ (L11.later (below_alloc _ _))).mono ?_
          rintro e w12 ⟨rfl, hc12'⟩
          have hc12 := bchain (below_alloc _ _) hc12'
          have X12 := Blk.later (Blk.new w11 _ [.int .i64 W2, .slice b1 e1 d1, .slice b2 e2 d2] _ rfl) hc12'
          have O12 := O11.later hc12
          have N12 := N11.later hc12
          have o12 := o11.later hc12
          have L12 := L11.later hc12
          have k12 := k11.later hc12
          have hb12 := bchain hb11 hc12
          have z12 := hc12.size
          clear N_0 N_1 N_2 N_f0 N_f1 N_f2 N_l O11 N11 L11 o11 k11 hc12 hc12'
          obtain ⟨N_0, N_1, N_2, N_f0, N_f1, N_f2, N_l⟩ := blk3 N12
          obtain ⟨X_0, X_1, X_2, _, _, _, X_l⟩ := blk3 X12
          go_wp2_with (at_builtin; refine stop ?_)
          refine Stop.go ?_
          refine wpList_append_x _ rfl _ _ 22 rfl (nb + 1) 3 i0 (.int .i64 0) 1 8 Try.underlying22 hi hz0 hz1 hz2 rfl (by decide) (.slice sa k sc) k _ rfl o12 b3 e3 d3 _ rfl (by rw [List.length_map, Nat.mul_one]; exact H_he3.out.symm) k12 (ints_oneCell _ _) (by unfold maxLen; omega) (by omega) (by omega) ?_
          intro a13 c13 w13 o13 hg hk13
          have hb13 : Below w.heap.size w w13 := below_grownX hb12 hg hb12.size (fun p h => by have := (o12.lt p h).1; omega)
          have O13 := blk_grown O12 hg (own_not fun ad e => by have := (oad ad e).1; omega)
          have N13 := blk_grown N12 hg (own_not fun ad e => by have := (oad ad e).1; omega)
          have X13 := blk_grown X12 hg (own_not fun ad e => by have := (oad ad e).2; omega)
          have r13 := L12.rs.grownC hg (fun bd e => .inr (fr1 _ (oad bd e).2))
          have q13 := L12.qs.grownC hg (fun bd e => .inr (fr2 _ (oad bd e).2))
          have f1 := fr1 nb nbl
          have f2 := fr2 nb nbl
          rw [← List.map_append] at o13
          clear N_0 N_1 N_2 N_f0 N_f1 N_f2 N_l X_0 X_1 X_2 X_l O12 N12 X12 o12 k12 hg hk13
          obtain ⟨N_0, N_1, N_2, N_f0, N_f1, N_f2, N_l⟩ := blk3 N13
          obtain ⟨X_0, X_1, X_2, _, _, _, X_l⟩ := blk3 X13
          have L13l := L12.rlen
          have L13q := L12.qlen
          have H_L13l := Box.mk L13l
          have H_L13q := Box.mk L13q
          clear L13l L13q
          clear L12
          go_wp2_with fail
          go_roundw
          case rel =>
            exact ⟨W2, rs2, q2, ord ++ ts, b1, e1, d1, b2, e2, d2, a13, k + e3, c13, j + 1, rfl, by first | rfl | go_num, ⟨((hb13.setCell (Nat.le_of_lt hwnb) _).setCell (Nat.le_of_lt hwnb) _).setCell (Nat.le_of_lt hwnb) _, ((O13.setFar (p := ⟨nb, 0, none⟩) (by simp; omega) _).setFar (p := ⟨nb, 1, none⟩) (by simp; omega) _).setFar (p := ⟨nb, 2, none⟩) (by simp; omega) _, ((N13.set 0 _).set 1 _).set 2 _, ⟨H_L13l.out, H_L13q.out, r13.far3 f1, q13.far3 f2, by omega, by omega⟩, ((o13.setCell (by simp) _).setCell (by simp) _).setCell (by simp) _⟩, HN⟩
          case measure => simp [intOf]; omega

end Go.Proofs.Ytnkbbfeaodppgaa
