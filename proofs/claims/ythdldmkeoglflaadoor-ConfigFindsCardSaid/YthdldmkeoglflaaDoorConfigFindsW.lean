/- The law ConfigFinds (under way). -/
import Derived.Test.YthdldmkeoglflaaDoorCfgFindsP
import Derived.Test.YthdldmkeoglflaaDoorCfgAlive
import Derived.Test.YthdldmkeoglflaaDoorCfgSame
import Derived.Test.YthdldmkeoglflaaDoorCfgOpen
namespace Go.Proofs.YthdldmkeoglflaaDoor
set_option linter.unusedSimpArgs false
set_option linter.unusedVariables false
set_option linter.unnecessarySimpa false
open Go.RowKit

theorem SIn.at {w : World} {s : Int} {ps : Peers} {b o : Nat} (h : SIn w s ps (some ⟨b, o, none⟩)) {k : Nat} (hk : k < ps.length) : w.cell? ⟨b, o + k * 2, none⟩ = some (.string (nm ps k)) ∧ w.cell? ⟨b, o + k * 2 + 1, none⟩ = some (.int .u32 (pu ps k)) := by
  obtain ⟨b', o', e, _, _, hc⟩ := h.cells.peers (by omega)
  cases e
  exact hc k hk
theorem cellsTwo_0 {w : World} {B : Nat} {u v : Value} (h : CellsAt w (some ⟨B, 0, none⟩) [u, v]) : w.cell? ⟨B, 0, none⟩ = some u := cells11_at (j := 0) h rfl
theorem cellsTwo_1 {w : World} {B : Nat} {u v : Value} (h : CellsAt w (some ⟨B, 0, none⟩) [u, v]) : w.cell? ⟨B, 1, none⟩ = some v := cells11_at (j := 1) h rfl
/-- What the law knows of what With gave. -/
structure YOk (L : Lim) (s : Int) (ps : Peers) (n : ByteArray) (q : Int) (R : SOut) : Prop where
  rng : 0 ≤ R.sec ∧ R.sec < 4294967296
  keys : Keys R.ps
  len : R.ps.length ≤ 1000000
  no : R.err ≠ 0 → R.err = 8 ∨ R.err = 14 ∨ R.err = 18 ∧ ps.length = 8
  yes : R.err = 0 → R = ⟨L, s, insP ps (lb ps n) n q, 0⟩ ∧ CV L s (insP ps (lb ps n) n q)
theorem YOk.of {L : Lim} {s : Int} {ps : Peers} (h : CV L s ps) (hk : Keys ps) (n : ByteArray) (q : Int) (q0 : 0 ≤ q) (q4 : q < 4294967296) (s0 : 0 ≤ s) (s4 : s < 4294967296) : YOk L s ps n q (withR L s ps n q 0) := by
  have hl := h.len
  have hle := lb_le ps n
  rcases with_cases h n q with ⟨e, hw, he⟩ | ⟨hw, hcv, hh⟩
  · rw [hw]
    refine ⟨⟨Int.le_refl 0, (by decide : (0 : Int) < 4294967296)⟩, fun i hi => absurd hi (Nat.not_lt_zero _), Nat.zero_le _, fun _ => he, fun h0 => ?_⟩
    have h0 : e = 0 := h0
    rcases he with h | h | ⟨h, _⟩ <;> omega
  · rw [hw]
    refine ⟨⟨s0, s4⟩, fun i hi => ?_, ?_, fun h0 => absurd rfl h0, fun _ => ⟨rfl, hcv⟩⟩
    · show 0 ≤ pu (insP ps (lb ps n) n q) i ∧ pu (insP ps (lb ps n) n q) i < 4294967296
      have hi : i < (insP ps (lb ps n) n q).length := hi
      rw [insP_len (lb_le ps n)] at hi
      rw [insP_pu (lb_le ps n)]
      split
      · exact hk i (by omega)
      · split
        · exact ⟨q0, q4⟩
        · exact hk (i - 1) (by omega)
    · show (insP ps (lb ps n) n q).length ≤ 1000000
      rw [insP_len (lb_le ps n)]; omega
set_option maxRecDepth 100000 in
set_option maxHeartbeats 10000000 in
theorem finds_walk (l0 l1 l2 l3 l4 l5 l6 l7 l8 : Int) (s : Int) (ps : Peers) (a : Option Addr) (c : Nat) (n : ByteArray) (q : Int) (w : World) (h : SetIn w s ps a c) (q0 : 0 ≤ q) (q4 : q < 4294967296) (htab : ∀ W, Below w.heap.size w W → Lib.TabIs Tryd.prog W "internal/strconv.uint64pow10" .u64 Lib.pow10Tab) :
    Calls Tryd.prog 5 #[.agg #[.int .i64 l0, .int .i64 l1, .int .i64 l2, .int .i64 l3, .int .i64 l4, .int .i64 l5, .int .i64 l6, .int .i64 l7, .int .i64 l8, .int .u32 s, .slice a ps.length c], .agg #[.string n, .int .u32 q]] w fun e w' =>
      e = .returned (.bool true) ∧ Below w.heap.size w w' := by
  have hml := h.len
  have hgr := fun W g => great_any l0 l1 l2 l3 l4 l5 l6 l7 l8 s ps a c W g hml
  unfold GreatR at hgr
  have hc := h.cells
  have s0 := h.s0
  have s4 := h.s4
  have hkeys := h.keys
  obtain ⟨E, hE⟩ : ∃ E, chkS (⟨l0, l1, l2, l3, l4, l5, l6, l7, l8⟩ : Lim) s ps = E := ⟨_, rfl⟩
  have hchk := fun W (h : SIn W s ps a) => hE ▸ rCheck_any l0 l1 l2 l3 l4 l5 l6 l7 l8 s ps a c W h.cells h.s0 h.s4 h.keys h.ml
  by_cases h0 : E = 0
  · subst h0
    have hcv := CV.of hE
    by_cases hn : 100 < n.size
    · have hn' : (100 : Int) < (n.size : Int) := by omega
      have H_hgr := Box.mk hgr
      have H_htab := Box.mk htab
      have H_hml := Box.mk hml
      have H_hkeys := Box.mk hkeys
      have H_hE := Box.mk hE
      have H_hcv := Box.mk hcv
      clear hgr htab hml hkeys hE hcv
      go_enter Tryd.func5, Tryd.ntmps5
      have hb0 := Below.refl w.heap.size w
      go_wp2_with fail
      with_reducible refine (alive_any _ (fun W hb => H_htab.out W (bchain (((Below.refl _ w).alloc (Nat.le_refl _) _).alloc (by simp) _) hb))).mono ?_
      rintro e w1 ⟨rfl, hc1⟩
      have hb1 : Below w.heap.size w w1 := bchain (by repeat' (first | with_reducible exact hb0 | with_reducible refine Below.drew ?_ | with_reducible refine below_drewN ?_ _ | with_reducible refine Below.alloc ?_ (by have := hb0.size; first | (simp; done) | (simp; omega) | omega) _ | with_reducible refine Below.setCell ?_ (by first | (simp; done) | (simp; omega) | omega) _)) hc1
      have hst1 : Below w.heap.size w w1 := bchain (by repeat' (first | with_reducible exact Below.refl _ _ | with_reducible refine Below.drew ?_ | with_reducible refine below_drewN ?_ _ | with_reducible refine Below.alloc ?_ (by first | (simp; done) | (simp; omega) | omega) _ | with_reducible refine Below.setCell ?_ (by first | (simp; done) | (simp; omega) | omega) _)) hc1
      have X_0 : w1.cell? ⟨w.heap.size, 0, none⟩ = some (.int .i64 l0) := (hc1.cell (p := ⟨w.heap.size, 0, none⟩) (by first | (simp; done) | (simp; omega))).trans (by first | (simp; done) | go_simp)
      have X_1 : w1.cell? ⟨w.heap.size, 1, none⟩ = some (.int .i64 l1) := (hc1.cell (p := ⟨w.heap.size, 1, none⟩) (by first | (simp; done) | (simp; omega))).trans (by first | (simp; done) | go_simp)
      have X_2 : w1.cell? ⟨w.heap.size, 2, none⟩ = some (.int .i64 l2) := (hc1.cell (p := ⟨w.heap.size, 2, none⟩) (by first | (simp; done) | (simp; omega))).trans (by first | (simp; done) | go_simp)
      have X_3 : w1.cell? ⟨w.heap.size, 3, none⟩ = some (.int .i64 l3) := (hc1.cell (p := ⟨w.heap.size, 3, none⟩) (by first | (simp; done) | (simp; omega))).trans (by first | (simp; done) | go_simp)
      have X_4 : w1.cell? ⟨w.heap.size, 4, none⟩ = some (.int .i64 l4) := (hc1.cell (p := ⟨w.heap.size, 4, none⟩) (by first | (simp; done) | (simp; omega))).trans (by first | (simp; done) | go_simp)
      have X_5 : w1.cell? ⟨w.heap.size, 5, none⟩ = some (.int .i64 l5) := (hc1.cell (p := ⟨w.heap.size, 5, none⟩) (by first | (simp; done) | (simp; omega))).trans (by first | (simp; done) | go_simp)
      have X_6 : w1.cell? ⟨w.heap.size, 6, none⟩ = some (.int .i64 l6) := (hc1.cell (p := ⟨w.heap.size, 6, none⟩) (by first | (simp; done) | (simp; omega))).trans (by first | (simp; done) | go_simp)
      have X_7 : w1.cell? ⟨w.heap.size, 7, none⟩ = some (.int .i64 l7) := (hc1.cell (p := ⟨w.heap.size, 7, none⟩) (by first | (simp; done) | (simp; omega))).trans (by first | (simp; done) | go_simp)
      have X_8 : w1.cell? ⟨w.heap.size, 8, none⟩ = some (.int .i64 l8) := (hc1.cell (p := ⟨w.heap.size, 8, none⟩) (by first | (simp; done) | (simp; omega))).trans (by first | (simp; done) | go_simp)
      have X_9 : w1.cell? ⟨w.heap.size, 9, none⟩ = some (.int .u32 s) := (hc1.cell (p := ⟨w.heap.size, 9, none⟩) (by first | (simp; done) | (simp; omega))).trans (by first | (simp; done) | go_simp)
      have X_10 : w1.cell? ⟨w.heap.size, 10, none⟩ = some (.slice a ps.length c) := (hc1.cell (p := ⟨w.heap.size, 10, none⟩) (by first | (simp; done) | (simp; omega))).trans (by first | (simp; done) | go_simp)
      have X_l : w.heap.size < w1.heap.size := Nat.lt_of_lt_of_le (by first | (simp; done) | (simp; omega)) hc1.size
      have P_0 : w1.cell? ⟨w.heap.size + 1, 0, none⟩ = some (.string n) := (hc1.cell (p := ⟨w.heap.size + 1, 0, none⟩) (by first | (simp; done) | (simp; omega))).trans (by first | (simp; done) | go_simp)
      have P_1 : w1.cell? ⟨w.heap.size + 1, 1, none⟩ = some (.int .u32 q) := (hc1.cell (p := ⟨w.heap.size + 1, 1, none⟩) (by first | (simp; done) | (simp; omega))).trans (by first | (simp; done) | go_simp)
      have P_l : w.heap.size + 1 < w1.heap.size := Nat.lt_of_lt_of_le (by first | (simp; done) | (simp; omega)) hc1.size
      replace hc := hc.later hst1
      clear hst1
      clear hc1 hb0
      go_wp2_with fail
      with_reducible refine (H_hgr.out _ hc).mono ?_
      rintro e w2 ⟨⟨g, rfl, hg⟩, hc2⟩
      have hb2 : Below w.heap.size w w2 := bchain (by repeat' (first | with_reducible exact hb1 | with_reducible refine Below.drew ?_ | with_reducible refine below_drewN ?_ _ | with_reducible refine Below.alloc ?_ (by have := hb1.size; first | (simp; done) | (simp; omega) | omega) _ | with_reducible refine Below.setCell ?_ (by first | (simp; done) | (simp; omega) | omega) _)) hc2
      have hst2 : Below w1.heap.size w1 w2 := bchain (by repeat' (first | with_reducible exact Below.refl _ _ | with_reducible refine Below.drew ?_ | with_reducible refine below_drewN ?_ _ | with_reducible refine Below.alloc ?_ (by first | (simp; done) | (simp; omega) | omega) _ | with_reducible refine Below.setCell ?_ (by first | (simp; done) | (simp; omega) | omega) _)) hc2
      replace X_0 := cell_later hst2 X_0
      replace X_1 := cell_later hst2 X_1
      replace X_2 := cell_later hst2 X_2
      replace X_3 := cell_later hst2 X_3
      replace X_4 := cell_later hst2 X_4
      replace X_5 := cell_later hst2 X_5
      replace X_6 := cell_later hst2 X_6
      replace X_7 := cell_later hst2 X_7
      replace X_8 := cell_later hst2 X_8
      replace X_9 := cell_later hst2 X_9
      replace X_10 := cell_later hst2 X_10
      replace X_l := Nat.lt_of_lt_of_le X_l hst2.size
      replace P_0 := cell_later hst2 P_0
      replace P_1 := cell_later hst2 P_1
      replace P_l := Nat.lt_of_lt_of_le P_l hst2.size
      replace hc := hc.later hst2
      clear hst2
      clear hc2 hb1
      cases g with
      | true =>
        go_wp2_with fail
        go_ret
        exact ⟨rfl, (by repeat' (first | with_reducible exact hb2 | with_reducible refine Below.drew ?_ | with_reducible refine below_drewN ?_ _ | with_reducible refine Below.alloc ?_ (by have := hb2.size; first | (simp; done) | (simp; omega) | omega) _ | with_reducible refine Below.setCell ?_ (by first | (simp; done) | (simp; omega) | omega) _))⟩
      | false =>
      obtain ⟨hl30, _⟩ := hg rfl
      clear hg
      have hS : SIn w2 s ps a := ⟨s0, s4, hc, H_hkeys.out, by omega⟩
      go_wp2_with fail
      with_reducible refine (hchk _ hS).mono ?_
      rintro e w3 ⟨rfl, hc3⟩
      have hb3 : Below w.heap.size w w3 := bchain (by repeat' (first | with_reducible exact hb2 | with_reducible refine Below.drew ?_ | with_reducible refine below_drewN ?_ _ | with_reducible refine Below.alloc ?_ (by have := hb2.size; first | (simp; done) | (simp; omega) | omega) _ | with_reducible refine Below.setCell ?_ (by first | (simp; done) | (simp; omega) | omega) _)) hc3
      have hst3 : Below w2.heap.size w2 w3 := bchain (by repeat' (first | with_reducible exact Below.refl _ _ | with_reducible refine Below.drew ?_ | with_reducible refine below_drewN ?_ _ | with_reducible refine Below.alloc ?_ (by first | (simp; done) | (simp; omega) | omega) _ | with_reducible refine Below.setCell ?_ (by first | (simp; done) | (simp; omega) | omega) _)) hc3
      replace X_0 := cell_later hst3 X_0
      replace X_1 := cell_later hst3 X_1
      replace X_2 := cell_later hst3 X_2
      replace X_3 := cell_later hst3 X_3
      replace X_4 := cell_later hst3 X_4
      replace X_5 := cell_later hst3 X_5
      replace X_6 := cell_later hst3 X_6
      replace X_7 := cell_later hst3 X_7
      replace X_8 := cell_later hst3 X_8
      replace X_9 := cell_later hst3 X_9
      replace X_10 := cell_later hst3 X_10
      replace X_l := Nat.lt_of_lt_of_le X_l hst3.size
      replace P_0 := cell_later hst3 P_0
      replace P_1 := cell_later hst3 P_1
      replace P_l := Nat.lt_of_lt_of_le P_l hst3.size
      replace hS := hS.later hst3
      clear hst3
      clear hc3 hb2
      go_wp2_with fail
      go_ret
      exact ⟨rfl, (by repeat' (first | with_reducible exact hb3 | with_reducible refine Below.drew ?_ | with_reducible refine below_drewN ?_ _ | with_reducible refine Below.alloc ?_ (by have := hb3.size; first | (simp; done) | (simp; omega) | omega) _ | with_reducible refine Below.setCell ?_ (by first | (simp; done) | (simp; omega) | omega) _))⟩
    · have hn' : ¬ (100 : Int) < (n.size : Int) := by omega
      have hwith := fun W (h : SIn W s ps a) => With_any l0 l1 l2 l3 l4 l5 l6 l7 l8 s q n ps a c W h q0 q4 0 hE
      unfold RetS at hwith
      have hyok := YOk.of hcv hkeys n q q0 q4 s0 s4
      obtain ⟨R5, hm⟩ : ∃ r, withR (⟨l0, l1, l2, l3, l4, l5, l6, l7, l8⟩ : Lim) s ps n q 0 = r := ⟨_, rfl⟩
      rw [hm] at hyok
      simp only [hm] at hwith
      clear hm
      obtain ⟨(⟨y0, y1, y2, y3, y4, y5, y6, y7, y8⟩ : Lim), ys, yq, ye⟩ := R5
      obtain ⟨hyr, hyk, hyl, hyno, hyyes⟩ := hyok
      simp only at hwith hyr hyk hyl hyno hyyes
      obtain ⟨EY, hEY⟩ : ∃ E, chkS (⟨y0, y1, y2, y3, y4, y5, y6, y7, y8⟩ : Lim) ys yq = E := ⟨_, rfl⟩
      have hyes2 : ye = 0 → EY = 0 := fun h => by
        obtain ⟨e, hv⟩ := hyyes h
        cases e
        rw [← hEY]; exact hv.err
      have hfy : ∀ a1 c1 x W, SIn W ys yq a1 → Calls Tryd.prog 19 #[.agg #[.int .i64 y0, .int .i64 y1, .int .i64 y2, .int .i64 y3, .int .i64 y4, .int .i64 y5, .int .i64 y6, .int .i64 y7, .int .i64 y8, .int .u32 ys, .slice a1 yq.length c1], .string x] W fun e w' => e = .returned (.tuple #[.int .u32 (findR EY yq x).1, .int .i64 (findR EY yq x).2]) ∧ Below W.heap.size W w' := fun a1 c1 x W g => Find_any y0 y1 y2 y3 y4 y5 y6 y7 y8 ys x yq a1 c1 W g EY hEY
      have hwy : ∀ a1 c1 x W, SIn W ys yq a1 → Calls Tryd.prog 20 #[.agg #[.int .i64 y0, .int .i64 y1, .int .i64 y2, .int .i64 y3, .int .i64 y4, .int .i64 y5, .int .i64 y6, .int .i64 y7, .int .i64 y8, .int .u32 ys, .slice a1 yq.length c1], .int .u32 x] W fun e w' => e = .returned (.tuple #[.string (whoR (pubK ys) EY yq x).1, .int .i64 (whoR (pubK ys) EY yq x).2]) ∧ Below W.heap.size W w' := fun a1 c1 x W g => Who_any y0 y1 y2 y3 y4 y5 y6 y7 y8 ys x yq a1 c1 W g EY hEY
      have hoy := fun a1 c1 W g => Without_any y0 y1 y2 y3 y4 y5 y6 y7 y8 ys n yq a1 c1 W g EY hEY
      unfold RetS at hoy
      have hcy : ∀ a1 c1 W, SIn W ys yq a1 → Calls Tryd.prog 12 #[.agg #[.int .i64 y0, .int .i64 y1, .int .i64 y2, .int .i64 y3, .int .i64 y4, .int .i64 y5, .int .i64 y6, .int .i64 y7, .int .i64 y8, .int .u32 ys, .slice a1 yq.length c1]] W fun e w' => e = .returned (.int .i64 EY) ∧ Below W.heap.size W w' := fun a1 c1 W g => hEY ▸ rCheck_any y0 y1 y2 y3 y4 y5 y6 y7 y8 ys yq a1 c1 W g.cells g.s0 g.s4 g.keys g.ml
      obtain ⟨hyr0, hyr4⟩ := hyr
      have H_hgr := Box.mk hgr
      have H_htab := Box.mk htab
      have H_hml := Box.mk hml
      have H_hkeys := Box.mk hkeys
      have H_hE := Box.mk hE
      have H_hcv := Box.mk hcv
      have H_hwith := Box.mk hwith
      have H_hyk := Box.mk hyk
      have H_hyl := Box.mk hyl
      have H_hyno := Box.mk hyno
      have H_hyyes := Box.mk hyyes
      have H_hyes2 := Box.mk hyes2
      have H_hfy := Box.mk hfy
      have H_hwy := Box.mk hwy
      have H_hoy := Box.mk hoy
      have H_hcy := Box.mk hcy
      have H_hEY := Box.mk hEY
      clear hgr htab hml hkeys hE hcv hwith hyk hyl hyno hyyes hyes2 hfy hwy hoy hcy hEY
      go_enter Tryd.func5, Tryd.ntmps5
      have hb0 := Below.refl w.heap.size w
      go_wp2_with fail
      with_reducible refine (alive_any _ (fun W hb => H_htab.out W (bchain (((Below.refl _ w).alloc (Nat.le_refl _) _).alloc (by simp) _) hb))).mono ?_
      rintro e w1 ⟨rfl, hc1⟩
      have hb1 : Below w.heap.size w w1 := bchain (by repeat' (first | with_reducible exact hb0 | with_reducible refine Below.drew ?_ | with_reducible refine below_drewN ?_ _ | with_reducible refine Below.alloc ?_ (by have := hb0.size; first | (simp; done) | (simp; omega) | omega) _ | with_reducible refine Below.setCell ?_ (by first | (simp; done) | (simp; omega) | omega) _)) hc1
      have hst1 : Below w.heap.size w w1 := bchain (by repeat' (first | with_reducible exact Below.refl _ _ | with_reducible refine Below.drew ?_ | with_reducible refine below_drewN ?_ _ | with_reducible refine Below.alloc ?_ (by first | (simp; done) | (simp; omega) | omega) _ | with_reducible refine Below.setCell ?_ (by first | (simp; done) | (simp; omega) | omega) _)) hc1
      have X_0 : w1.cell? ⟨w.heap.size, 0, none⟩ = some (.int .i64 l0) := (hc1.cell (p := ⟨w.heap.size, 0, none⟩) (by first | (simp; done) | (simp; omega))).trans (by first | (simp; done) | go_simp)
      have X_1 : w1.cell? ⟨w.heap.size, 1, none⟩ = some (.int .i64 l1) := (hc1.cell (p := ⟨w.heap.size, 1, none⟩) (by first | (simp; done) | (simp; omega))).trans (by first | (simp; done) | go_simp)
      have X_2 : w1.cell? ⟨w.heap.size, 2, none⟩ = some (.int .i64 l2) := (hc1.cell (p := ⟨w.heap.size, 2, none⟩) (by first | (simp; done) | (simp; omega))).trans (by first | (simp; done) | go_simp)
      have X_3 : w1.cell? ⟨w.heap.size, 3, none⟩ = some (.int .i64 l3) := (hc1.cell (p := ⟨w.heap.size, 3, none⟩) (by first | (simp; done) | (simp; omega))).trans (by first | (simp; done) | go_simp)
      have X_4 : w1.cell? ⟨w.heap.size, 4, none⟩ = some (.int .i64 l4) := (hc1.cell (p := ⟨w.heap.size, 4, none⟩) (by first | (simp; done) | (simp; omega))).trans (by first | (simp; done) | go_simp)
      have X_5 : w1.cell? ⟨w.heap.size, 5, none⟩ = some (.int .i64 l5) := (hc1.cell (p := ⟨w.heap.size, 5, none⟩) (by first | (simp; done) | (simp; omega))).trans (by first | (simp; done) | go_simp)
      have X_6 : w1.cell? ⟨w.heap.size, 6, none⟩ = some (.int .i64 l6) := (hc1.cell (p := ⟨w.heap.size, 6, none⟩) (by first | (simp; done) | (simp; omega))).trans (by first | (simp; done) | go_simp)
      have X_7 : w1.cell? ⟨w.heap.size, 7, none⟩ = some (.int .i64 l7) := (hc1.cell (p := ⟨w.heap.size, 7, none⟩) (by first | (simp; done) | (simp; omega))).trans (by first | (simp; done) | go_simp)
      have X_8 : w1.cell? ⟨w.heap.size, 8, none⟩ = some (.int .i64 l8) := (hc1.cell (p := ⟨w.heap.size, 8, none⟩) (by first | (simp; done) | (simp; omega))).trans (by first | (simp; done) | go_simp)
      have X_9 : w1.cell? ⟨w.heap.size, 9, none⟩ = some (.int .u32 s) := (hc1.cell (p := ⟨w.heap.size, 9, none⟩) (by first | (simp; done) | (simp; omega))).trans (by first | (simp; done) | go_simp)
      have X_10 : w1.cell? ⟨w.heap.size, 10, none⟩ = some (.slice a ps.length c) := (hc1.cell (p := ⟨w.heap.size, 10, none⟩) (by first | (simp; done) | (simp; omega))).trans (by first | (simp; done) | go_simp)
      have X_l : w.heap.size < w1.heap.size := Nat.lt_of_lt_of_le (by first | (simp; done) | (simp; omega)) hc1.size
      have P_0 : w1.cell? ⟨w.heap.size + 1, 0, none⟩ = some (.string n) := (hc1.cell (p := ⟨w.heap.size + 1, 0, none⟩) (by first | (simp; done) | (simp; omega))).trans (by first | (simp; done) | go_simp)
      have P_1 : w1.cell? ⟨w.heap.size + 1, 1, none⟩ = some (.int .u32 q) := (hc1.cell (p := ⟨w.heap.size + 1, 1, none⟩) (by first | (simp; done) | (simp; omega))).trans (by first | (simp; done) | go_simp)
      have P_l : w.heap.size + 1 < w1.heap.size := Nat.lt_of_lt_of_le (by first | (simp; done) | (simp; omega)) hc1.size
      replace hc := hc.later hst1
      clear hst1
      clear hc1 hb0
      go_wp2_with fail
      with_reducible refine (H_hgr.out _ hc).mono ?_
      rintro e w2 ⟨⟨g, rfl, hg⟩, hc2⟩
      have hb2 : Below w.heap.size w w2 := bchain (by repeat' (first | with_reducible exact hb1 | with_reducible refine Below.drew ?_ | with_reducible refine below_drewN ?_ _ | with_reducible refine Below.alloc ?_ (by have := hb1.size; first | (simp; done) | (simp; omega) | omega) _ | with_reducible refine Below.setCell ?_ (by first | (simp; done) | (simp; omega) | omega) _)) hc2
      have hst2 : Below w1.heap.size w1 w2 := bchain (by repeat' (first | with_reducible exact Below.refl _ _ | with_reducible refine Below.drew ?_ | with_reducible refine below_drewN ?_ _ | with_reducible refine Below.alloc ?_ (by first | (simp; done) | (simp; omega) | omega) _ | with_reducible refine Below.setCell ?_ (by first | (simp; done) | (simp; omega) | omega) _)) hc2
      replace X_0 := cell_later hst2 X_0
      replace X_1 := cell_later hst2 X_1
      replace X_2 := cell_later hst2 X_2
      replace X_3 := cell_later hst2 X_3
      replace X_4 := cell_later hst2 X_4
      replace X_5 := cell_later hst2 X_5
      replace X_6 := cell_later hst2 X_6
      replace X_7 := cell_later hst2 X_7
      replace X_8 := cell_later hst2 X_8
      replace X_9 := cell_later hst2 X_9
      replace X_10 := cell_later hst2 X_10
      replace X_l := Nat.lt_of_lt_of_le X_l hst2.size
      replace P_0 := cell_later hst2 P_0
      replace P_1 := cell_later hst2 P_1
      replace P_l := Nat.lt_of_lt_of_le P_l hst2.size
      replace hc := hc.later hst2
      clear hst2
      clear hc2 hb1
      cases g with
      | true =>
        go_wp2_with fail
        go_ret
        exact ⟨rfl, (by repeat' (first | with_reducible exact hb2 | with_reducible refine Below.drew ?_ | with_reducible refine below_drewN ?_ _ | with_reducible refine Below.alloc ?_ (by have := hb2.size; first | (simp; done) | (simp; omega) | omega) _ | with_reducible refine Below.setCell ?_ (by first | (simp; done) | (simp; omega) | omega) _))⟩
      | false =>
      obtain ⟨hl30, _⟩ := hg rfl
      clear hg
      have hS : SIn w2 s ps a := ⟨s0, s4, hc, H_hkeys.out, by omega⟩
      go_wp2_with fail
      with_reducible refine (hchk _ hS).mono ?_
      rintro e w3 ⟨rfl, hc3⟩
      have hb3 : Below w.heap.size w w3 := bchain (by repeat' (first | with_reducible exact hb2 | with_reducible refine Below.drew ?_ | with_reducible refine below_drewN ?_ _ | with_reducible refine Below.alloc ?_ (by have := hb2.size; first | (simp; done) | (simp; omega) | omega) _ | with_reducible refine Below.setCell ?_ (by first | (simp; done) | (simp; omega) | omega) _)) hc3
      have hst3 : Below w2.heap.size w2 w3 := bchain (by repeat' (first | with_reducible exact Below.refl _ _ | with_reducible refine Below.drew ?_ | with_reducible refine below_drewN ?_ _ | with_reducible refine Below.alloc ?_ (by first | (simp; done) | (simp; omega) | omega) _ | with_reducible refine Below.setCell ?_ (by first | (simp; done) | (simp; omega) | omega) _)) hc3
      replace X_0 := cell_later hst3 X_0
      replace X_1 := cell_later hst3 X_1
      replace X_2 := cell_later hst3 X_2
      replace X_3 := cell_later hst3 X_3
      replace X_4 := cell_later hst3 X_4
      replace X_5 := cell_later hst3 X_5
      replace X_6 := cell_later hst3 X_6
      replace X_7 := cell_later hst3 X_7
      replace X_8 := cell_later hst3 X_8
      replace X_9 := cell_later hst3 X_9
      replace X_10 := cell_later hst3 X_10
      replace X_l := Nat.lt_of_lt_of_le X_l hst3.size
      replace P_0 := cell_later hst3 P_0
      replace P_1 := cell_later hst3 P_1
      replace P_l := Nat.lt_of_lt_of_le P_l hst3.size
      replace hS := hS.later hst3
      clear hst3
      clear hc3 hb2
      go_wp2_with fail
      with_reducible refine (H_hwith.out _ hS).mono ?_
      rintro e w4 ⟨⟨a1, c1, rfl, k1⟩, hc4⟩
      have hb4 : Below w.heap.size w w4 := bchain (by repeat' (first | with_reducible exact hb3 | with_reducible refine Below.drew ?_ | with_reducible refine below_drewN ?_ _ | with_reducible refine Below.alloc ?_ (by have := hb3.size; first | (simp; done) | (simp; omega) | omega) _ | with_reducible refine Below.setCell ?_ (by first | (simp; done) | (simp; omega) | omega) _)) hc4
      have hst4 : Below w3.heap.size w3 w4 := bchain (by repeat' (first | with_reducible exact Below.refl _ _ | with_reducible refine Below.drew ?_ | with_reducible refine below_drewN ?_ _ | with_reducible refine Below.alloc ?_ (by first | (simp; done) | (simp; omega) | omega) _ | with_reducible refine Below.setCell ?_ (by first | (simp; done) | (simp; omega) | omega) _)) hc4
      replace X_0 := cell_later hst4 X_0
      replace X_1 := cell_later hst4 X_1
      replace X_2 := cell_later hst4 X_2
      replace X_3 := cell_later hst4 X_3
      replace X_4 := cell_later hst4 X_4
      replace X_5 := cell_later hst4 X_5
      replace X_6 := cell_later hst4 X_6
      replace X_7 := cell_later hst4 X_7
      replace X_8 := cell_later hst4 X_8
      replace X_9 := cell_later hst4 X_9
      replace X_10 := cell_later hst4 X_10
      replace X_l := Nat.lt_of_lt_of_le X_l hst4.size
      replace P_0 := cell_later hst4 P_0
      replace P_1 := cell_later hst4 P_1
      replace P_l := Nat.lt_of_lt_of_le P_l hst4.size
      replace hS := hS.later hst4
      clear hst4
      clear hc4 hb3
      have hT : SIn w4 ys yq a1 := ⟨hyr0, hyr4, k1, H_hyk.out, H_hyl.out⟩
      clear k1
      obtain ⟨Yb, hYb⟩ : ∃ Yb, w4.heap.size = Yb := ⟨_, rfl⟩
      have hXl := X_l
      go_wp2_with fail
      try simp only [hYb]
      go_loopw [8] (fun i wr => ∃ k : Nat, k ≤ ps.length ∧ i = .int .i64 k ∧ Below w.heap.size w wr ∧ SIn wr s ps a ∧ SIn wr ys yq a1 ∧ CellsAt wr (some ⟨w.heap.size, 0, none⟩) [.int .i64 l0, .int .i64 l1, .int .i64 l2, .int .i64 l3, .int .i64 l4, .int .i64 l5, .int .i64 l6, .int .i64 l7, .int .i64 l8, .int .u32 s, .slice a ps.length c] ∧ CellsAt wr (some ⟨w.heap.size + 1, 0, none⟩) [.string n, .int .u32 q] ∧ CellsAt wr (some ⟨Yb, 0, none⟩) [.int .i64 y0, .int .i64 y1, .int .i64 y2, .int .i64 y3, .int .i64 y4, .int .i64 y5, .int .i64 y6, .int .i64 y7, .int .i64 y8, .int .u32 ys, .slice a1 yq.length c1]) (fun i _ => ps.length - (intOf i).toNat)
      case atStart => exact ⟨0, Nat.zero_le _, rfl, (by repeat' (first | with_reducible exact hb4 | with_reducible refine Below.drew ?_ | with_reducible refine below_drewN ?_ _ | with_reducible refine Below.alloc ?_ (by have := hb4.size; first | (simp; done) | (simp; omega) | omega) _ | with_reducible refine Below.setCell ?_ (by first | (simp; done) | (simp; omega) | omega) _)), hS.alloc _, hT.alloc _, (cells11 X_0 X_1 X_2 X_3 X_4 X_5 X_6 X_7 X_8 X_9 X_10).alloc _, (cellsAt_two P_0 P_1).alloc _, hYb ▸ cells11 (by go_simp) (by go_simp) (by go_simp) (by go_simp) (by go_simp) (by go_simp) (by go_simp) (by go_simp) (by go_simp) (by go_simp) (by go_simp)⟩
      case round =>
        clear hS hT hYb
        obtain ⟨k, hkl, rfl, hbw, hS, hT, hX, hP, hY⟩ := hrel
        clear X_0 X_1 X_2 X_3 X_4 X_5 X_6 X_7 X_8 X_9 X_10 X_l P_0 P_1 P_l
        by_cases hlt : k < ps.length
        · have hlt' : (k : Int) < (ps.length : Int) := by omega
          have e8 := find_at H_hcv.out.inc hlt
          have e9 := who_at H_hcv.out.dist hlt
          have e12 : ye = 0 → findR EY yq (nm ps k) = (pu ps k, 0) := fun h => by
            have h2 := H_hyes2.out h
            obtain ⟨e, hv⟩ := H_hyyes.out h
            cases e
            rw [h2]; exact find_old hv hlt
          have hf8 : ∀ W, SIn W s ps a → Calls Tryd.prog 19 #[.agg #[.int .i64 l0, .int .i64 l1, .int .i64 l2, .int .i64 l3, .int .i64 l4, .int .i64 l5, .int .i64 l6, .int .i64 l7, .int .i64 l8, .int .u32 s, .slice a ps.length c], .string (nm ps k)] W fun e w' => e = .returned (.tuple #[.int .u32 (pu ps k), .int .i64 0]) ∧ Below W.heap.size W w' := fun W g => by
            have := Find_any l0 l1 l2 l3 l4 l5 l6 l7 l8 s (nm ps k) ps a c W g 0 H_hE.out
            unfold RetUI at this
            rwa [e8] at this
          have hw9 : ∀ W, SIn W s ps a → Calls Tryd.prog 20 #[.agg #[.int .i64 l0, .int .i64 l1, .int .i64 l2, .int .i64 l3, .int .i64 l4, .int .i64 l5, .int .i64 l6, .int .i64 l7, .int .i64 l8, .int .u32 s, .slice a ps.length c], .int .u32 (pu ps k)] W fun e w' => e = .returned (.tuple #[.string (nm ps k), .int .i64 0]) ∧ Below W.heap.size W w' := fun W g => by
            have := Who_any l0 l1 l2 l3 l4 l5 l6 l7 l8 s (pu ps k) ps a c W g 0 H_hE.out
            unfold RetSI at this
            rwa [e9] at this
          have hf12 := H_hfy.out a1 c1 (nm ps k)
          obtain ⟨⟨cf, hf⟩, hr12⟩ : ∃ r, findR EY yq (nm ps k) = r := ⟨_, rfl⟩
          simp only [hr12] at hf12 e12
          clear hr12 e8 e9
          obtain ⟨b1, o1, rfl, g1, g2, hcell⟩ := hS.cells.peers (by omega)
          clear hcell
          have X_0 := cells11_at (j := 0) hX rfl
          have X_1 := cells11_at (j := 1) hX rfl
          have X_2 := cells11_at (j := 2) hX rfl
          have X_3 := cells11_at (j := 3) hX rfl
          have X_4 := cells11_at (j := 4) hX rfl
          have X_5 := cells11_at (j := 5) hX rfl
          have X_6 := cells11_at (j := 6) hX rfl
          have X_7 := cells11_at (j := 7) hX rfl
          have X_8 := cells11_at (j := 8) hX rfl
          have X_9 := cells11_at (j := 9) hX rfl
          have X_10 := cells11_at (j := 10) hX rfl
          have X_l : w.heap.size < wr.heap.size := World.block_lt_of_cell? _ _ X_10
          have Y_0 := cells11_at (j := 0) hY rfl
          have Y_1 := cells11_at (j := 1) hY rfl
          have Y_2 := cells11_at (j := 2) hY rfl
          have Y_3 := cells11_at (j := 3) hY rfl
          have Y_4 := cells11_at (j := 4) hY rfl
          have Y_5 := cells11_at (j := 5) hY rfl
          have Y_6 := cells11_at (j := 6) hY rfl
          have Y_7 := cells11_at (j := 7) hY rfl
          have Y_8 := cells11_at (j := 8) hY rfl
          have Y_9 := cells11_at (j := 9) hY rfl
          have Y_10 := cells11_at (j := 10) hY rfl
          have Y_l : Yb < wr.heap.size := World.block_lt_of_cell? _ _ Y_10
          clear hX hY
          have hn1 : ((nm ps k).toList == (nm ps k).toList) = true := seqB_self (nm ps k)
          obtain ⟨x1, hx1⟩ : ∃ x, nm ps k = x := ⟨_, rfl⟩
          obtain ⟨p1, hp1⟩ : ∃ x, pu ps k = x := ⟨_, rfl⟩
          simp only [hx1, hp1] at hf8 hw9 hf12 e12 hn1
          have H_hf8 := Box.mk hf8
          have H_hw9 := Box.mk hw9
          have H_hf12 := Box.mk hf12
          have H_hx1 := Box.mk hx1
          have H_hp1 := Box.mk hp1
          have H_e12 := Box.mk e12
          clear hf8 hw9 hf12 hx1 hp1 e12
          go_wp2_with fail
          refine wp_gen fun w11 hc11 => ?_
          have hb11 : Below w.heap.size w w11 := bchain (by repeat' (first | with_reducible exact hbw | with_reducible refine Below.drew ?_ | with_reducible refine below_drewN ?_ _ | with_reducible refine Below.alloc ?_ (by have := hbw.size; first | (simp; done) | (simp; omega) | omega) _ | with_reducible refine Below.setCell ?_ (by first | (simp; done) | (simp; omega) | omega) _)) hc11
          have hst11 : Below wr.heap.size wr w11 := bchain (by repeat' (first | with_reducible exact Below.refl _ _ | with_reducible refine Below.drew ?_ | with_reducible refine below_drewN ?_ _ | with_reducible refine Below.alloc ?_ (by first | (simp; done) | (simp; omega) | omega) _ | with_reducible refine Below.setCell ?_ (by first | (simp; done) | (simp; omega) | omega) _)) hc11
          replace X_0 := cell_later hst11 X_0
          replace X_1 := cell_later hst11 X_1
          replace X_2 := cell_later hst11 X_2
          replace X_3 := cell_later hst11 X_3
          replace X_4 := cell_later hst11 X_4
          replace X_5 := cell_later hst11 X_5
          replace X_6 := cell_later hst11 X_6
          replace X_7 := cell_later hst11 X_7
          replace X_8 := cell_later hst11 X_8
          replace X_9 := cell_later hst11 X_9
          replace X_10 := cell_later hst11 X_10
          replace X_l := Nat.lt_of_lt_of_le X_l hst11.size
          replace Y_0 := cell_later hst11 Y_0
          replace Y_1 := cell_later hst11 Y_1
          replace Y_2 := cell_later hst11 Y_2
          replace Y_3 := cell_later hst11 Y_3
          replace Y_4 := cell_later hst11 Y_4
          replace Y_5 := cell_later hst11 Y_5
          replace Y_6 := cell_later hst11 Y_6
          replace Y_7 := cell_later hst11 Y_7
          replace Y_8 := cell_later hst11 Y_8
          replace Y_9 := cell_later hst11 Y_9
          replace Y_10 := cell_later hst11 Y_10
          replace Y_l := Nat.lt_of_lt_of_le Y_l hst11.size
          replace hS := hS.later hst11
          replace hT := hT.later hst11
          replace hP := hP.later hst11
          clear hst11
          have KX_0 := cell_on X_0
          have KX_1 := cell_on X_1
          have KX_2 := cell_on X_2
          have KX_3 := cell_on X_3
          have KX_4 := cell_on X_4
          have KX_5 := cell_on X_5
          have KX_6 := cell_on X_6
          have KX_7 := cell_on X_7
          have KX_8 := cell_on X_8
          have KX_9 := cell_on X_9
          have KX_10 := cell_on X_10
          have KY := cell_on (hS.at hlt).1
          simp only [H_hx1.out] at KY
          refine wp_region_on (by kernel_rfl) (by kernel_rfl) ?_
          repeat (go_big_quiet_step ((first | (go_at_call 19; with_reducible exact calls_on (H_hf8.out _ (hS.on _))))))
          refine wpQuiet_nil ?_
          intro w12 hc12
          clear KX_0 KX_1 KX_2 KX_3 KX_4 KX_5 KX_6 KX_7 KX_8 KX_9 KX_10
          have hb12 : Below w.heap.size w w12 := bchain (by repeat' (first | with_reducible exact hb11 | with_reducible refine Below.drew ?_ | with_reducible refine below_drewN ?_ _ | with_reducible refine Below.alloc ?_ (by have := hb11.size; first | (simp; done) | (simp; omega) | omega) _ | with_reducible refine Below.setCell ?_ (by first | (simp; done) | (simp; omega) | omega) _)) hc12
          have hst12 : Below w11.heap.size w11 w12 := bchain (by repeat' (first | with_reducible exact Below.refl _ _ | with_reducible refine Below.drew ?_ | with_reducible refine below_drewN ?_ _ | with_reducible refine Below.alloc ?_ (by first | (simp; done) | (simp; omega) | omega) _ | with_reducible refine Below.setCell ?_ (by first | (simp; done) | (simp; omega) | omega) _)) hc12
          replace X_0 := cell_later hst12 X_0
          replace X_1 := cell_later hst12 X_1
          replace X_2 := cell_later hst12 X_2
          replace X_3 := cell_later hst12 X_3
          replace X_4 := cell_later hst12 X_4
          replace X_5 := cell_later hst12 X_5
          replace X_6 := cell_later hst12 X_6
          replace X_7 := cell_later hst12 X_7
          replace X_8 := cell_later hst12 X_8
          replace X_9 := cell_later hst12 X_9
          replace X_10 := cell_later hst12 X_10
          replace X_l := Nat.lt_of_lt_of_le X_l hst12.size
          replace Y_0 := cell_later hst12 Y_0
          replace Y_1 := cell_later hst12 Y_1
          replace Y_2 := cell_later hst12 Y_2
          replace Y_3 := cell_later hst12 Y_3
          replace Y_4 := cell_later hst12 Y_4
          replace Y_5 := cell_later hst12 Y_5
          replace Y_6 := cell_later hst12 Y_6
          replace Y_7 := cell_later hst12 Y_7
          replace Y_8 := cell_later hst12 Y_8
          replace Y_9 := cell_later hst12 Y_9
          replace Y_10 := cell_later hst12 Y_10
          replace Y_l := Nat.lt_of_lt_of_le Y_l hst12.size
          replace hS := hS.later hst12
          replace hT := hT.later hst12
          replace hP := hP.later hst12
          clear hst12
          go_wp2_with fail
          refine wp_gen fun w13 hc13 => ?_
          have hb13 : Below w.heap.size w w13 := bchain (by repeat' (first | with_reducible exact hb12 | with_reducible refine Below.drew ?_ | with_reducible refine below_drewN ?_ _ | with_reducible refine Below.alloc ?_ (by have := hb12.size; first | (simp; done) | (simp; omega) | omega) _ | with_reducible refine Below.setCell ?_ (by first | (simp; done) | (simp; omega) | omega) _)) hc13
          have hst13 : Below w12.heap.size w12 w13 := bchain (by repeat' (first | with_reducible exact Below.refl _ _ | with_reducible refine Below.drew ?_ | with_reducible refine below_drewN ?_ _ | with_reducible refine Below.alloc ?_ (by first | (simp; done) | (simp; omega) | omega) _ | with_reducible refine Below.setCell ?_ (by first | (simp; done) | (simp; omega) | omega) _)) hc13
          replace X_0 := cell_later hst13 X_0
          replace X_1 := cell_later hst13 X_1
          replace X_2 := cell_later hst13 X_2
          replace X_3 := cell_later hst13 X_3
          replace X_4 := cell_later hst13 X_4
          replace X_5 := cell_later hst13 X_5
          replace X_6 := cell_later hst13 X_6
          replace X_7 := cell_later hst13 X_7
          replace X_8 := cell_later hst13 X_8
          replace X_9 := cell_later hst13 X_9
          replace X_10 := cell_later hst13 X_10
          replace X_l := Nat.lt_of_lt_of_le X_l hst13.size
          replace Y_0 := cell_later hst13 Y_0
          replace Y_1 := cell_later hst13 Y_1
          replace Y_2 := cell_later hst13 Y_2
          replace Y_3 := cell_later hst13 Y_3
          replace Y_4 := cell_later hst13 Y_4
          replace Y_5 := cell_later hst13 Y_5
          replace Y_6 := cell_later hst13 Y_6
          replace Y_7 := cell_later hst13 Y_7
          replace Y_8 := cell_later hst13 Y_8
          replace Y_9 := cell_later hst13 Y_9
          replace Y_10 := cell_later hst13 Y_10
          replace Y_l := Nat.lt_of_lt_of_le Y_l hst13.size
          replace hS := hS.later hst13
          replace hT := hT.later hst13
          replace hP := hP.later hst13
          clear hst13
          have KX_0 := cell_on X_0
          have KX_1 := cell_on X_1
          have KX_2 := cell_on X_2
          have KX_3 := cell_on X_3
          have KX_4 := cell_on X_4
          have KX_5 := cell_on X_5
          have KX_6 := cell_on X_6
          have KX_7 := cell_on X_7
          have KX_8 := cell_on X_8
          have KX_9 := cell_on X_9
          have KX_10 := cell_on X_10
          have KY := cell_on (hS.at hlt).2
          simp only [H_hp1.out] at KY
          refine wp_region_on (by kernel_rfl) (by kernel_rfl) ?_
          repeat (go_big_quiet_step ((first | (go_at_call 20; with_reducible exact calls_on (H_hw9.out _ (hS.on _))))))
          refine wpQuiet_nil ?_
          intro w14 hc14
          clear KX_0 KX_1 KX_2 KX_3 KX_4 KX_5 KX_6 KX_7 KX_8 KX_9 KX_10
          have hb14 : Below w.heap.size w w14 := bchain (by repeat' (first | with_reducible exact hb13 | with_reducible refine Below.drew ?_ | with_reducible refine below_drewN ?_ _ | with_reducible refine Below.alloc ?_ (by have := hb13.size; first | (simp; done) | (simp; omega) | omega) _ | with_reducible refine Below.setCell ?_ (by first | (simp; done) | (simp; omega) | omega) _)) hc14
          have hst14 : Below w13.heap.size w13 w14 := bchain (by repeat' (first | with_reducible exact Below.refl _ _ | with_reducible refine Below.drew ?_ | with_reducible refine below_drewN ?_ _ | with_reducible refine Below.alloc ?_ (by first | (simp; done) | (simp; omega) | omega) _ | with_reducible refine Below.setCell ?_ (by first | (simp; done) | (simp; omega) | omega) _)) hc14
          replace X_0 := cell_later hst14 X_0
          replace X_1 := cell_later hst14 X_1
          replace X_2 := cell_later hst14 X_2
          replace X_3 := cell_later hst14 X_3
          replace X_4 := cell_later hst14 X_4
          replace X_5 := cell_later hst14 X_5
          replace X_6 := cell_later hst14 X_6
          replace X_7 := cell_later hst14 X_7
          replace X_8 := cell_later hst14 X_8
          replace X_9 := cell_later hst14 X_9
          replace X_10 := cell_later hst14 X_10
          replace X_l := Nat.lt_of_lt_of_le X_l hst14.size
          replace Y_0 := cell_later hst14 Y_0
          replace Y_1 := cell_later hst14 Y_1
          replace Y_2 := cell_later hst14 Y_2
          replace Y_3 := cell_later hst14 Y_3
          replace Y_4 := cell_later hst14 Y_4
          replace Y_5 := cell_later hst14 Y_5
          replace Y_6 := cell_later hst14 Y_6
          replace Y_7 := cell_later hst14 Y_7
          replace Y_8 := cell_later hst14 Y_8
          replace Y_9 := cell_later hst14 Y_9
          replace Y_10 := cell_later hst14 Y_10
          replace Y_l := Nat.lt_of_lt_of_le Y_l hst14.size
          replace hS := hS.later hst14
          replace hT := hT.later hst14
          replace hP := hP.later hst14
          clear hst14
          have c0 := (hS.at hlt).1
          have c1' := (hS.at hlt).2
          rw [H_hx1.out] at c0
          rw [H_hp1.out] at c1'
          go_wp2_with fail
          clear c0 c1'
          go_wp2_with fail
          refine wp_gen fun w15 hc15 => ?_
          have hb15 : Below w.heap.size w w15 := bchain (by repeat' (first | with_reducible exact hb14 | with_reducible refine Below.drew ?_ | with_reducible refine below_drewN ?_ _ | with_reducible refine Below.alloc ?_ (by have := hb14.size; first | (simp; done) | (simp; omega) | omega) _ | with_reducible refine Below.setCell ?_ (by first | (simp; done) | (simp; omega) | omega) _)) hc15
          have hst15 : Below w14.heap.size w14 w15 := bchain (by repeat' (first | with_reducible exact Below.refl _ _ | with_reducible refine Below.drew ?_ | with_reducible refine below_drewN ?_ _ | with_reducible refine Below.alloc ?_ (by first | (simp; done) | (simp; omega) | omega) _ | with_reducible refine Below.setCell ?_ (by first | (simp; done) | (simp; omega) | omega) _)) hc15
          replace X_0 := cell_later hst15 X_0
          replace X_1 := cell_later hst15 X_1
          replace X_2 := cell_later hst15 X_2
          replace X_3 := cell_later hst15 X_3
          replace X_4 := cell_later hst15 X_4
          replace X_5 := cell_later hst15 X_5
          replace X_6 := cell_later hst15 X_6
          replace X_7 := cell_later hst15 X_7
          replace X_8 := cell_later hst15 X_8
          replace X_9 := cell_later hst15 X_9
          replace X_10 := cell_later hst15 X_10
          replace X_l := Nat.lt_of_lt_of_le X_l hst15.size
          replace Y_0 := cell_later hst15 Y_0
          replace Y_1 := cell_later hst15 Y_1
          replace Y_2 := cell_later hst15 Y_2
          replace Y_3 := cell_later hst15 Y_3
          replace Y_4 := cell_later hst15 Y_4
          replace Y_5 := cell_later hst15 Y_5
          replace Y_6 := cell_later hst15 Y_6
          replace Y_7 := cell_later hst15 Y_7
          replace Y_8 := cell_later hst15 Y_8
          replace Y_9 := cell_later hst15 Y_9
          replace Y_10 := cell_later hst15 Y_10
          replace Y_l := Nat.lt_of_lt_of_le Y_l hst15.size
          replace hS := hS.later hst15
          replace hT := hT.later hst15
          replace hP := hP.later hst15
          clear hst15
          have KX_0 := cell_on X_0
          have KX_1 := cell_on X_1
          have KX_2 := cell_on X_2
          have KX_3 := cell_on X_3
          have KX_4 := cell_on X_4
          have KX_5 := cell_on X_5
          have KX_6 := cell_on X_6
          have KX_7 := cell_on X_7
          have KX_8 := cell_on X_8
          have KX_9 := cell_on X_9
          have KX_10 := cell_on X_10
          have KY_0 := cell_on Y_0
          have KY_1 := cell_on Y_1
          have KY_2 := cell_on Y_2
          have KY_3 := cell_on Y_3
          have KY_4 := cell_on Y_4
          have KY_5 := cell_on Y_5
          have KY_6 := cell_on Y_6
          have KY_7 := cell_on Y_7
          have KY_8 := cell_on Y_8
          have KY_9 := cell_on Y_9
          have KY_10 := cell_on Y_10
          have KY := cell_on (hS.at hlt).1
          simp only [H_hx1.out] at KY
          refine wp_region_on (by kernel_rfl) (by kernel_rfl) ?_
          repeat (go_big_quiet_step ((first | (go_at_call 19; with_reducible exact calls_on (H_hf12.out _ (hT.on _))))))
          refine wpQuiet_nil ?_
          intro w16 hc16
          clear KX_0 KX_1 KX_2 KX_3 KX_4 KX_5 KX_6 KX_7 KX_8 KX_9 KX_10 KY_0 KY_1 KY_2 KY_3 KY_4 KY_5 KY_6 KY_7 KY_8 KY_9 KY_10
          have hb16 : Below w.heap.size w w16 := bchain (by repeat' (first | with_reducible exact hb15 | with_reducible refine Below.drew ?_ | with_reducible refine below_drewN ?_ _ | with_reducible refine Below.alloc ?_ (by have := hb15.size; first | (simp; done) | (simp; omega) | omega) _ | with_reducible refine Below.setCell ?_ (by first | (simp; done) | (simp; omega) | omega) _)) hc16
          have hst16 : Below w15.heap.size w15 w16 := bchain (by repeat' (first | with_reducible exact Below.refl _ _ | with_reducible refine Below.drew ?_ | with_reducible refine below_drewN ?_ _ | with_reducible refine Below.alloc ?_ (by first | (simp; done) | (simp; omega) | omega) _ | with_reducible refine Below.setCell ?_ (by first | (simp; done) | (simp; omega) | omega) _)) hc16
          replace X_0 := cell_later hst16 X_0
          replace X_1 := cell_later hst16 X_1
          replace X_2 := cell_later hst16 X_2
          replace X_3 := cell_later hst16 X_3
          replace X_4 := cell_later hst16 X_4
          replace X_5 := cell_later hst16 X_5
          replace X_6 := cell_later hst16 X_6
          replace X_7 := cell_later hst16 X_7
          replace X_8 := cell_later hst16 X_8
          replace X_9 := cell_later hst16 X_9
          replace X_10 := cell_later hst16 X_10
          replace X_l := Nat.lt_of_lt_of_le X_l hst16.size
          replace Y_0 := cell_later hst16 Y_0
          replace Y_1 := cell_later hst16 Y_1
          replace Y_2 := cell_later hst16 Y_2
          replace Y_3 := cell_later hst16 Y_3
          replace Y_4 := cell_later hst16 Y_4
          replace Y_5 := cell_later hst16 Y_5
          replace Y_6 := cell_later hst16 Y_6
          replace Y_7 := cell_later hst16 Y_7
          replace Y_8 := cell_later hst16 Y_8
          replace Y_9 := cell_later hst16 Y_9
          replace Y_10 := cell_later hst16 Y_10
          replace Y_l := Nat.lt_of_lt_of_le Y_l hst16.size
          replace hS := hS.later hst16
          replace hT := hT.later hst16
          replace hP := hP.later hst16
          clear hst16
          by_cases hye : ye = 0
          · obtain ⟨rfl, rfl⟩ := Prod.mk.inj (H_e12.out hye)
            subst hye
            go_wp2_with fail
            go_roundw
            case rel => exact ⟨k + 1, hlt, by go_num, (by repeat' (first | with_reducible exact hb16 | with_reducible refine Below.drew ?_ | with_reducible refine below_drewN ?_ _ | with_reducible refine Below.alloc ?_ (by have := hb16.size; first | (simp; done) | (simp; omega) | omega) _ | with_reducible refine Below.setCell ?_ (by first | (simp; done) | (simp; omega) | omega) _)), hS, hT, cells11 X_0 X_1 X_2 X_3 X_4 X_5 X_6 X_7 X_8 X_9 X_10, hP, cells11 Y_0 Y_1 Y_2 Y_3 Y_4 Y_5 Y_6 Y_7 Y_8 Y_9 Y_10⟩
            case measure => simp [intOf]; omega
          · have hye2 : (ye == 0) = false := beq_eq_false_iff_ne.2 hye
            go_wp2_with fail
            go_roundw
            case rel => exact ⟨k + 1, hlt, by go_num, (by repeat' (first | with_reducible exact hb16 | with_reducible refine Below.drew ?_ | with_reducible refine below_drewN ?_ _ | with_reducible refine Below.alloc ?_ (by have := hb16.size; first | (simp; done) | (simp; omega) | omega) _ | with_reducible refine Below.setCell ?_ (by first | (simp; done) | (simp; omega) | omega) _)), hS, hT, cells11 X_0 X_1 X_2 X_3 X_4 X_5 X_6 X_7 X_8 X_9 X_10, hP, cells11 Y_0 Y_1 Y_2 Y_3 Y_4 Y_5 Y_6 Y_7 Y_8 Y_9 Y_10⟩
            case measure => simp [intOf]; omega
        · obtain rfl : k = ps.length := by omega
          clear hlt hkl
          have X_0 := cells11_at (j := 0) hX rfl
          have X_1 := cells11_at (j := 1) hX rfl
          have X_2 := cells11_at (j := 2) hX rfl
          have X_3 := cells11_at (j := 3) hX rfl
          have X_4 := cells11_at (j := 4) hX rfl
          have X_5 := cells11_at (j := 5) hX rfl
          have X_6 := cells11_at (j := 6) hX rfl
          have X_7 := cells11_at (j := 7) hX rfl
          have X_8 := cells11_at (j := 8) hX rfl
          have X_9 := cells11_at (j := 9) hX rfl
          have X_10 := cells11_at (j := 10) hX rfl
          have X_l : w.heap.size < wr.heap.size := World.block_lt_of_cell? _ _ X_10
          have Y_0 := cells11_at (j := 0) hY rfl
          have Y_1 := cells11_at (j := 1) hY rfl
          have Y_2 := cells11_at (j := 2) hY rfl
          have Y_3 := cells11_at (j := 3) hY rfl
          have Y_4 := cells11_at (j := 4) hY rfl
          have Y_5 := cells11_at (j := 5) hY rfl
          have Y_6 := cells11_at (j := 6) hY rfl
          have Y_7 := cells11_at (j := 7) hY rfl
          have Y_8 := cells11_at (j := 8) hY rfl
          have Y_9 := cells11_at (j := 9) hY rfl
          have Y_10 := cells11_at (j := 10) hY rfl
          have Y_l : Yb < wr.heap.size := World.block_lt_of_cell? _ _ Y_10
          clear hX hY
          have P_0 := cellsTwo_0 hP
          have P_1 := cellsTwo_1 hP
          have P_l : w.heap.size + 1 < wr.heap.size := World.block_lt_of_cell? _ _ P_1
          clear hP
          by_cases hye : ye = 0
          · subst hye
            have hEY0 : EY = 0 := H_hyes2.out rfl
            obtain ⟨e, hv⟩ := H_hyyes.out rfl
            have e1 : findR 0 yq n = (q, 0) := by cases e; exact find_put hv
            have e2 : whoR (pubK ys) 0 yq q = (n, 0) := by cases e; exact who_put hv
            have e3 : withoutR (⟨y0, y1, y2, y3, y4, y5, y6, y7, y8⟩ : Lim) ys yq n 0 = ⟨(⟨l0, l1, l2, l3, l4, l5, l6, l7, l8⟩ : Lim), s, ps, 0⟩ := by cases e; exact without_put hv
            have f1 := H_hfy.out a1 c1 n
            have f2 := H_hwy.out a1 c1 q
            have f3 := H_hoy.out a1 c1
            have f4 := H_hcy.out a1 c1
            simp only [hEY0, e1, e2, e3] at f1 f2 f3 f4
            have hnn : (n.toList == n.toList) = true := seqB_self n
            have H_e := Box.mk e
            have H_hv := Box.mk hv
            have H_e1 := Box.mk e1
            have H_e2 := Box.mk e2
            have H_e3 := Box.mk e3
            have H_f1 := Box.mk f1
            have H_f2 := Box.mk f2
            have H_f3 := Box.mk f3
            have H_f4 := Box.mk f4
            clear e hv e1 e2 e3 f1 f2 f3 f4
            clear hEY0
            go_wp2_with fail
            with_reducible refine (H_f1.out _ hT).mono ?_
            rintro e w51 ⟨rfl, hc51⟩
            have hb51 : Below w.heap.size w w51 := bchain (by repeat' (first | with_reducible exact hbw | with_reducible refine Below.drew ?_ | with_reducible refine below_drewN ?_ _ | with_reducible refine Below.alloc ?_ (by have := hbw.size; first | (simp; done) | (simp; omega) | omega) _ | with_reducible refine Below.setCell ?_ (by first | (simp; done) | (simp; omega) | omega) _)) hc51
            have hst51 : Below wr.heap.size wr w51 := bchain (by repeat' (first | with_reducible exact Below.refl _ _ | with_reducible refine Below.drew ?_ | with_reducible refine below_drewN ?_ _ | with_reducible refine Below.alloc ?_ (by first | (simp; done) | (simp; omega) | omega) _ | with_reducible refine Below.setCell ?_ (by first | (simp; done) | (simp; omega) | omega) _)) hc51
            replace X_0 := cell_later hst51 X_0
            replace X_1 := cell_later hst51 X_1
            replace X_2 := cell_later hst51 X_2
            replace X_3 := cell_later hst51 X_3
            replace X_4 := cell_later hst51 X_4
            replace X_5 := cell_later hst51 X_5
            replace X_6 := cell_later hst51 X_6
            replace X_7 := cell_later hst51 X_7
            replace X_8 := cell_later hst51 X_8
            replace X_9 := cell_later hst51 X_9
            replace X_10 := cell_later hst51 X_10
            replace X_l := Nat.lt_of_lt_of_le X_l hst51.size
            replace P_0 := cell_later hst51 P_0
            replace P_1 := cell_later hst51 P_1
            replace P_l := Nat.lt_of_lt_of_le P_l hst51.size
            replace Y_0 := cell_later hst51 Y_0
            replace Y_1 := cell_later hst51 Y_1
            replace Y_2 := cell_later hst51 Y_2
            replace Y_3 := cell_later hst51 Y_3
            replace Y_4 := cell_later hst51 Y_4
            replace Y_5 := cell_later hst51 Y_5
            replace Y_6 := cell_later hst51 Y_6
            replace Y_7 := cell_later hst51 Y_7
            replace Y_8 := cell_later hst51 Y_8
            replace Y_9 := cell_later hst51 Y_9
            replace Y_10 := cell_later hst51 Y_10
            replace Y_l := Nat.lt_of_lt_of_le Y_l hst51.size
            replace hS := hS.later hst51
            replace hT := hT.later hst51
            clear hst51
            clear hc51 hbw
            go_wp2_with fail
            with_reducible refine (H_f2.out _ hT).mono ?_
            rintro e w52 ⟨rfl, hc52⟩
            have hb52 : Below w.heap.size w w52 := bchain (by repeat' (first | with_reducible exact hb51 | with_reducible refine Below.drew ?_ | with_reducible refine below_drewN ?_ _ | with_reducible refine Below.alloc ?_ (by have := hb51.size; first | (simp; done) | (simp; omega) | omega) _ | with_reducible refine Below.setCell ?_ (by first | (simp; done) | (simp; omega) | omega) _)) hc52
            have hst52 : Below w51.heap.size w51 w52 := bchain (by repeat' (first | with_reducible exact Below.refl _ _ | with_reducible refine Below.drew ?_ | with_reducible refine below_drewN ?_ _ | with_reducible refine Below.alloc ?_ (by first | (simp; done) | (simp; omega) | omega) _ | with_reducible refine Below.setCell ?_ (by first | (simp; done) | (simp; omega) | omega) _)) hc52
            replace X_0 := cell_later hst52 X_0
            replace X_1 := cell_later hst52 X_1
            replace X_2 := cell_later hst52 X_2
            replace X_3 := cell_later hst52 X_3
            replace X_4 := cell_later hst52 X_4
            replace X_5 := cell_later hst52 X_5
            replace X_6 := cell_later hst52 X_6
            replace X_7 := cell_later hst52 X_7
            replace X_8 := cell_later hst52 X_8
            replace X_9 := cell_later hst52 X_9
            replace X_10 := cell_later hst52 X_10
            replace X_l := Nat.lt_of_lt_of_le X_l hst52.size
            replace P_0 := cell_later hst52 P_0
            replace P_1 := cell_later hst52 P_1
            replace P_l := Nat.lt_of_lt_of_le P_l hst52.size
            replace Y_0 := cell_later hst52 Y_0
            replace Y_1 := cell_later hst52 Y_1
            replace Y_2 := cell_later hst52 Y_2
            replace Y_3 := cell_later hst52 Y_3
            replace Y_4 := cell_later hst52 Y_4
            replace Y_5 := cell_later hst52 Y_5
            replace Y_6 := cell_later hst52 Y_6
            replace Y_7 := cell_later hst52 Y_7
            replace Y_8 := cell_later hst52 Y_8
            replace Y_9 := cell_later hst52 Y_9
            replace Y_10 := cell_later hst52 Y_10
            replace Y_l := Nat.lt_of_lt_of_le Y_l hst52.size
            replace hS := hS.later hst52
            replace hT := hT.later hst52
            clear hst52
            clear hc52 hb51
            go_wp2_with fail
            with_reducible refine (H_f3.out _ hT).mono ?_
            rintro e w53 ⟨⟨a3, c3, rfl, k3⟩, hc53⟩
            have hb53 : Below w.heap.size w w53 := bchain (by repeat' (first | with_reducible exact hb52 | with_reducible refine Below.drew ?_ | with_reducible refine below_drewN ?_ _ | with_reducible refine Below.alloc ?_ (by have := hb52.size; first | (simp; done) | (simp; omega) | omega) _ | with_reducible refine Below.setCell ?_ (by first | (simp; done) | (simp; omega) | omega) _)) hc53
            have hst53 : Below w52.heap.size w52 w53 := bchain (by repeat' (first | with_reducible exact Below.refl _ _ | with_reducible refine Below.drew ?_ | with_reducible refine below_drewN ?_ _ | with_reducible refine Below.alloc ?_ (by first | (simp; done) | (simp; omega) | omega) _ | with_reducible refine Below.setCell ?_ (by first | (simp; done) | (simp; omega) | omega) _)) hc53
            replace X_0 := cell_later hst53 X_0
            replace X_1 := cell_later hst53 X_1
            replace X_2 := cell_later hst53 X_2
            replace X_3 := cell_later hst53 X_3
            replace X_4 := cell_later hst53 X_4
            replace X_5 := cell_later hst53 X_5
            replace X_6 := cell_later hst53 X_6
            replace X_7 := cell_later hst53 X_7
            replace X_8 := cell_later hst53 X_8
            replace X_9 := cell_later hst53 X_9
            replace X_10 := cell_later hst53 X_10
            replace X_l := Nat.lt_of_lt_of_le X_l hst53.size
            replace P_0 := cell_later hst53 P_0
            replace P_1 := cell_later hst53 P_1
            replace P_l := Nat.lt_of_lt_of_le P_l hst53.size
            replace Y_0 := cell_later hst53 Y_0
            replace Y_1 := cell_later hst53 Y_1
            replace Y_2 := cell_later hst53 Y_2
            replace Y_3 := cell_later hst53 Y_3
            replace Y_4 := cell_later hst53 Y_4
            replace Y_5 := cell_later hst53 Y_5
            replace Y_6 := cell_later hst53 Y_6
            replace Y_7 := cell_later hst53 Y_7
            replace Y_8 := cell_later hst53 Y_8
            replace Y_9 := cell_later hst53 Y_9
            replace Y_10 := cell_later hst53 Y_10
            replace Y_l := Nat.lt_of_lt_of_le Y_l hst53.size
            replace hS := hS.later hst53
            replace hT := hT.later hst53
            clear hst53
            clear hc53 hb52
            go_wp2_with fail
            with_reducible refine (H_f4.out _ (hT.alloc _)).mono ?_
            rintro e w54 ⟨rfl, hc54⟩
            have hb54 : Below w.heap.size w w54 := bchain (by repeat' (first | with_reducible exact hb53 | with_reducible refine Below.drew ?_ | with_reducible refine below_drewN ?_ _ | with_reducible refine Below.alloc ?_ (by have := hb53.size; first | (simp; done) | (simp; omega) | omega) _ | with_reducible refine Below.setCell ?_ (by first | (simp; done) | (simp; omega) | omega) _)) hc54
            have hst54 : Below w53.heap.size w53 w54 := bchain (by repeat' (first | with_reducible exact Below.refl _ _ | with_reducible refine Below.drew ?_ | with_reducible refine below_drewN ?_ _ | with_reducible refine Below.alloc ?_ (by first | (simp; done) | (simp; omega) | omega) _ | with_reducible refine Below.setCell ?_ (by first | (simp; done) | (simp; omega) | omega) _)) hc54
            replace X_0 := cell_later hst54 X_0
            replace X_1 := cell_later hst54 X_1
            replace X_2 := cell_later hst54 X_2
            replace X_3 := cell_later hst54 X_3
            replace X_4 := cell_later hst54 X_4
            replace X_5 := cell_later hst54 X_5
            replace X_6 := cell_later hst54 X_6
            replace X_7 := cell_later hst54 X_7
            replace X_8 := cell_later hst54 X_8
            replace X_9 := cell_later hst54 X_9
            replace X_10 := cell_later hst54 X_10
            replace X_l := Nat.lt_of_lt_of_le X_l hst54.size
            replace P_0 := cell_later hst54 P_0
            replace P_1 := cell_later hst54 P_1
            replace P_l := Nat.lt_of_lt_of_le P_l hst54.size
            replace Y_0 := cell_later hst54 Y_0
            replace Y_1 := cell_later hst54 Y_1
            replace Y_2 := cell_later hst54 Y_2
            replace Y_3 := cell_later hst54 Y_3
            replace Y_4 := cell_later hst54 Y_4
            replace Y_5 := cell_later hst54 Y_5
            replace Y_6 := cell_later hst54 Y_6
            replace Y_7 := cell_later hst54 Y_7
            replace Y_8 := cell_later hst54 Y_8
            replace Y_9 := cell_later hst54 Y_9
            replace Y_10 := cell_later hst54 Y_10
            replace Y_l := Nat.lt_of_lt_of_le Y_l hst54.size
            have Z_0 : w54.cell? ⟨w53.heap.size, 0, none⟩ = some (.int .i64 l0) := (hc54.cell (p := ⟨w53.heap.size, 0, none⟩) (by first | (simp; done) | (simp; omega))).trans (by first | (simp; done) | go_simp)
            have Z_1 : w54.cell? ⟨w53.heap.size, 1, none⟩ = some (.int .i64 l1) := (hc54.cell (p := ⟨w53.heap.size, 1, none⟩) (by first | (simp; done) | (simp; omega))).trans (by first | (simp; done) | go_simp)
            have Z_2 : w54.cell? ⟨w53.heap.size, 2, none⟩ = some (.int .i64 l2) := (hc54.cell (p := ⟨w53.heap.size, 2, none⟩) (by first | (simp; done) | (simp; omega))).trans (by first | (simp; done) | go_simp)
            have Z_3 : w54.cell? ⟨w53.heap.size, 3, none⟩ = some (.int .i64 l3) := (hc54.cell (p := ⟨w53.heap.size, 3, none⟩) (by first | (simp; done) | (simp; omega))).trans (by first | (simp; done) | go_simp)
            have Z_4 : w54.cell? ⟨w53.heap.size, 4, none⟩ = some (.int .i64 l4) := (hc54.cell (p := ⟨w53.heap.size, 4, none⟩) (by first | (simp; done) | (simp; omega))).trans (by first | (simp; done) | go_simp)
            have Z_5 : w54.cell? ⟨w53.heap.size, 5, none⟩ = some (.int .i64 l5) := (hc54.cell (p := ⟨w53.heap.size, 5, none⟩) (by first | (simp; done) | (simp; omega))).trans (by first | (simp; done) | go_simp)
            have Z_6 : w54.cell? ⟨w53.heap.size, 6, none⟩ = some (.int .i64 l6) := (hc54.cell (p := ⟨w53.heap.size, 6, none⟩) (by first | (simp; done) | (simp; omega))).trans (by first | (simp; done) | go_simp)
            have Z_7 : w54.cell? ⟨w53.heap.size, 7, none⟩ = some (.int .i64 l7) := (hc54.cell (p := ⟨w53.heap.size, 7, none⟩) (by first | (simp; done) | (simp; omega))).trans (by first | (simp; done) | go_simp)
            have Z_8 : w54.cell? ⟨w53.heap.size, 8, none⟩ = some (.int .i64 l8) := (hc54.cell (p := ⟨w53.heap.size, 8, none⟩) (by first | (simp; done) | (simp; omega))).trans (by first | (simp; done) | go_simp)
            have Z_9 : w54.cell? ⟨w53.heap.size, 9, none⟩ = some (.int .u32 s) := (hc54.cell (p := ⟨w53.heap.size, 9, none⟩) (by first | (simp; done) | (simp; omega))).trans (by first | (simp; done) | go_simp)
            have Z_10 : w54.cell? ⟨w53.heap.size, 10, none⟩ = some (.slice a3 ps.length c3) := (hc54.cell (p := ⟨w53.heap.size, 10, none⟩) (by first | (simp; done) | (simp; omega))).trans (by first | (simp; done) | go_simp)
            have Z_l : w53.heap.size < w54.heap.size := Nat.lt_of_lt_of_le (by first | (simp; done) | (simp; omega)) hc54.size
            replace hS := hS.later hst54
            replace hT := hT.later hst54
            replace k3 := k3.later hst54
            clear hst54
            clear hc54 hb53
            go_wp2_with fail
            with_reducible refine (same_any l0 l1 l2 l3 l4 l5 l6 l7 l8 s ps a3 a c3 c ps.length _ rfl (k3.later (by repeat' (first | with_reducible exact Below.refl _ _ | with_reducible refine Below.drew ?_ | with_reducible refine Below.setCell ?_ (by first | (simp; done) | (simp; omega) | omega) _ | with_reducible refine Below.alloc ?_ (by first | (simp; done) | (simp; omega) | omega) _))) (hS.cells.later (by repeat' (first | with_reducible exact Below.refl _ _ | with_reducible refine Below.drew ?_ | with_reducible refine Below.setCell ?_ (by first | (simp; done) | (simp; omega) | omega) _ | with_reducible refine Below.alloc ?_ (by first | (simp; done) | (simp; omega) | omega) _))) H_hml.out).mono ?_
            rintro e w55 ⟨rfl, hc55⟩
            have hb55 : Below w.heap.size w w55 := bchain (by repeat' (first | with_reducible exact hb54 | with_reducible refine Below.drew ?_ | with_reducible refine below_drewN ?_ _ | with_reducible refine Below.alloc ?_ (by have := hb54.size; first | (simp; done) | (simp; omega) | omega) _ | with_reducible refine Below.setCell ?_ (by first | (simp; done) | (simp; omega) | omega) _)) hc55
            have hst55 : Below w54.heap.size w54 w55 := bchain (by repeat' (first | with_reducible exact Below.refl _ _ | with_reducible refine Below.drew ?_ | with_reducible refine below_drewN ?_ _ | with_reducible refine Below.alloc ?_ (by first | (simp; done) | (simp; omega) | omega) _ | with_reducible refine Below.setCell ?_ (by first | (simp; done) | (simp; omega) | omega) _)) hc55
            replace X_0 := cell_later hst55 X_0
            replace X_1 := cell_later hst55 X_1
            replace X_2 := cell_later hst55 X_2
            replace X_3 := cell_later hst55 X_3
            replace X_4 := cell_later hst55 X_4
            replace X_5 := cell_later hst55 X_5
            replace X_6 := cell_later hst55 X_6
            replace X_7 := cell_later hst55 X_7
            replace X_8 := cell_later hst55 X_8
            replace X_9 := cell_later hst55 X_9
            replace X_10 := cell_later hst55 X_10
            replace X_l := Nat.lt_of_lt_of_le X_l hst55.size
            replace P_0 := cell_later hst55 P_0
            replace P_1 := cell_later hst55 P_1
            replace P_l := Nat.lt_of_lt_of_le P_l hst55.size
            replace Y_0 := cell_later hst55 Y_0
            replace Y_1 := cell_later hst55 Y_1
            replace Y_2 := cell_later hst55 Y_2
            replace Y_3 := cell_later hst55 Y_3
            replace Y_4 := cell_later hst55 Y_4
            replace Y_5 := cell_later hst55 Y_5
            replace Y_6 := cell_later hst55 Y_6
            replace Y_7 := cell_later hst55 Y_7
            replace Y_8 := cell_later hst55 Y_8
            replace Y_9 := cell_later hst55 Y_9
            replace Y_10 := cell_later hst55 Y_10
            replace Y_l := Nat.lt_of_lt_of_le Y_l hst55.size
            replace Z_0 := cell_later hst55 Z_0
            replace Z_1 := cell_later hst55 Z_1
            replace Z_2 := cell_later hst55 Z_2
            replace Z_3 := cell_later hst55 Z_3
            replace Z_4 := cell_later hst55 Z_4
            replace Z_5 := cell_later hst55 Z_5
            replace Z_6 := cell_later hst55 Z_6
            replace Z_7 := cell_later hst55 Z_7
            replace Z_8 := cell_later hst55 Z_8
            replace Z_9 := cell_later hst55 Z_9
            replace Z_10 := cell_later hst55 Z_10
            replace Z_l := Nat.lt_of_lt_of_le Z_l hst55.size
            replace hS := hS.later hst55
            replace hT := hT.later hst55
            replace k3 := k3.later hst55
            clear hst55
            clear hc55 hb54
            go_wp2_with fail
            go_ret
            exact ⟨rfl, (by repeat' (first | with_reducible exact hb55 | with_reducible refine Below.drew ?_ | with_reducible refine below_drewN ?_ _ | with_reducible refine Below.alloc ?_ (by have := hb55.size; first | (simp; done) | (simp; omega) | omega) _ | with_reducible refine Below.setCell ?_ (by first | (simp; done) | (simp; omega) | omega) _))⟩
          · skip
            rcases H_hyno.out hye with rfl | rfl | ⟨rfl, h8⟩
            · go_wp2_with fail
              go_ret
              exact ⟨rfl, (by repeat' (first | with_reducible exact hbw | with_reducible refine Below.drew ?_ | with_reducible refine below_drewN ?_ _ | with_reducible refine Below.alloc ?_ (by have := hbw.size; first | (simp; done) | (simp; omega) | omega) _ | with_reducible refine Below.setCell ?_ (by first | (simp; done) | (simp; omega) | omega) _))⟩
            · go_wp2_with fail
              go_ret
              exact ⟨rfl, (by repeat' (first | with_reducible exact hbw | with_reducible refine Below.drew ?_ | with_reducible refine below_drewN ?_ _ | with_reducible refine Below.alloc ?_ (by have := hbw.size; first | (simp; done) | (simp; omega) | omega) _ | with_reducible refine Below.setCell ?_ (by first | (simp; done) | (simp; omega) | omega) _))⟩
            · have h8' : (ps.length : Int) = 8 := by omega
              go_wp2_with fail
              go_ret
              exact ⟨rfl, (by repeat' (first | with_reducible exact hbw | with_reducible refine Below.drew ?_ | with_reducible refine below_drewN ?_ _ | with_reducible refine Below.alloc ?_ (by have := hbw.size; first | (simp; done) | (simp; omega) | omega) _ | with_reducible refine Below.setCell ?_ (by first | (simp; done) | (simp; omega) | omega) _))⟩
  · have b1 : (E != 0) = true := bne_iff_ne.2 h0
    have H_hgr := Box.mk hgr
    have H_htab := Box.mk htab
    have H_hml := Box.mk hml
    have H_hkeys := Box.mk hkeys
    have H_hE := Box.mk hE
    clear hgr htab hml hkeys hE
    go_enter Tryd.func5, Tryd.ntmps5
    have hb0 := Below.refl w.heap.size w
    go_wp2_with fail
    with_reducible refine (alive_any _ (fun W hb => H_htab.out W (bchain (((Below.refl _ w).alloc (Nat.le_refl _) _).alloc (by simp) _) hb))).mono ?_
    rintro e w1 ⟨rfl, hc1⟩
    have hb1 : Below w.heap.size w w1 := bchain (by repeat' (first | with_reducible exact hb0 | with_reducible refine Below.drew ?_ | with_reducible refine below_drewN ?_ _ | with_reducible refine Below.alloc ?_ (by have := hb0.size; first | (simp; done) | (simp; omega) | omega) _ | with_reducible refine Below.setCell ?_ (by first | (simp; done) | (simp; omega) | omega) _)) hc1
    have hst1 : Below w.heap.size w w1 := bchain (by repeat' (first | with_reducible exact Below.refl _ _ | with_reducible refine Below.drew ?_ | with_reducible refine below_drewN ?_ _ | with_reducible refine Below.alloc ?_ (by first | (simp; done) | (simp; omega) | omega) _ | with_reducible refine Below.setCell ?_ (by first | (simp; done) | (simp; omega) | omega) _)) hc1
    have X_0 : w1.cell? ⟨w.heap.size, 0, none⟩ = some (.int .i64 l0) := (hc1.cell (p := ⟨w.heap.size, 0, none⟩) (by first | (simp; done) | (simp; omega))).trans (by first | (simp; done) | go_simp)
    have X_1 : w1.cell? ⟨w.heap.size, 1, none⟩ = some (.int .i64 l1) := (hc1.cell (p := ⟨w.heap.size, 1, none⟩) (by first | (simp; done) | (simp; omega))).trans (by first | (simp; done) | go_simp)
    have X_2 : w1.cell? ⟨w.heap.size, 2, none⟩ = some (.int .i64 l2) := (hc1.cell (p := ⟨w.heap.size, 2, none⟩) (by first | (simp; done) | (simp; omega))).trans (by first | (simp; done) | go_simp)
    have X_3 : w1.cell? ⟨w.heap.size, 3, none⟩ = some (.int .i64 l3) := (hc1.cell (p := ⟨w.heap.size, 3, none⟩) (by first | (simp; done) | (simp; omega))).trans (by first | (simp; done) | go_simp)
    have X_4 : w1.cell? ⟨w.heap.size, 4, none⟩ = some (.int .i64 l4) := (hc1.cell (p := ⟨w.heap.size, 4, none⟩) (by first | (simp; done) | (simp; omega))).trans (by first | (simp; done) | go_simp)
    have X_5 : w1.cell? ⟨w.heap.size, 5, none⟩ = some (.int .i64 l5) := (hc1.cell (p := ⟨w.heap.size, 5, none⟩) (by first | (simp; done) | (simp; omega))).trans (by first | (simp; done) | go_simp)
    have X_6 : w1.cell? ⟨w.heap.size, 6, none⟩ = some (.int .i64 l6) := (hc1.cell (p := ⟨w.heap.size, 6, none⟩) (by first | (simp; done) | (simp; omega))).trans (by first | (simp; done) | go_simp)
    have X_7 : w1.cell? ⟨w.heap.size, 7, none⟩ = some (.int .i64 l7) := (hc1.cell (p := ⟨w.heap.size, 7, none⟩) (by first | (simp; done) | (simp; omega))).trans (by first | (simp; done) | go_simp)
    have X_8 : w1.cell? ⟨w.heap.size, 8, none⟩ = some (.int .i64 l8) := (hc1.cell (p := ⟨w.heap.size, 8, none⟩) (by first | (simp; done) | (simp; omega))).trans (by first | (simp; done) | go_simp)
    have X_9 : w1.cell? ⟨w.heap.size, 9, none⟩ = some (.int .u32 s) := (hc1.cell (p := ⟨w.heap.size, 9, none⟩) (by first | (simp; done) | (simp; omega))).trans (by first | (simp; done) | go_simp)
    have X_10 : w1.cell? ⟨w.heap.size, 10, none⟩ = some (.slice a ps.length c) := (hc1.cell (p := ⟨w.heap.size, 10, none⟩) (by first | (simp; done) | (simp; omega))).trans (by first | (simp; done) | go_simp)
    have X_l : w.heap.size < w1.heap.size := Nat.lt_of_lt_of_le (by first | (simp; done) | (simp; omega)) hc1.size
    have P_0 : w1.cell? ⟨w.heap.size + 1, 0, none⟩ = some (.string n) := (hc1.cell (p := ⟨w.heap.size + 1, 0, none⟩) (by first | (simp; done) | (simp; omega))).trans (by first | (simp; done) | go_simp)
    have P_1 : w1.cell? ⟨w.heap.size + 1, 1, none⟩ = some (.int .u32 q) := (hc1.cell (p := ⟨w.heap.size + 1, 1, none⟩) (by first | (simp; done) | (simp; omega))).trans (by first | (simp; done) | go_simp)
    have P_l : w.heap.size + 1 < w1.heap.size := Nat.lt_of_lt_of_le (by first | (simp; done) | (simp; omega)) hc1.size
    replace hc := hc.later hst1
    clear hst1
    clear hc1 hb0
    go_wp2_with fail
    with_reducible refine (H_hgr.out _ hc).mono ?_
    rintro e w2 ⟨⟨g, rfl, hg⟩, hc2⟩
    have hb2 : Below w.heap.size w w2 := bchain (by repeat' (first | with_reducible exact hb1 | with_reducible refine Below.drew ?_ | with_reducible refine below_drewN ?_ _ | with_reducible refine Below.alloc ?_ (by have := hb1.size; first | (simp; done) | (simp; omega) | omega) _ | with_reducible refine Below.setCell ?_ (by first | (simp; done) | (simp; omega) | omega) _)) hc2
    have hst2 : Below w1.heap.size w1 w2 := bchain (by repeat' (first | with_reducible exact Below.refl _ _ | with_reducible refine Below.drew ?_ | with_reducible refine below_drewN ?_ _ | with_reducible refine Below.alloc ?_ (by first | (simp; done) | (simp; omega) | omega) _ | with_reducible refine Below.setCell ?_ (by first | (simp; done) | (simp; omega) | omega) _)) hc2
    replace X_0 := cell_later hst2 X_0
    replace X_1 := cell_later hst2 X_1
    replace X_2 := cell_later hst2 X_2
    replace X_3 := cell_later hst2 X_3
    replace X_4 := cell_later hst2 X_4
    replace X_5 := cell_later hst2 X_5
    replace X_6 := cell_later hst2 X_6
    replace X_7 := cell_later hst2 X_7
    replace X_8 := cell_later hst2 X_8
    replace X_9 := cell_later hst2 X_9
    replace X_10 := cell_later hst2 X_10
    replace X_l := Nat.lt_of_lt_of_le X_l hst2.size
    replace P_0 := cell_later hst2 P_0
    replace P_1 := cell_later hst2 P_1
    replace P_l := Nat.lt_of_lt_of_le P_l hst2.size
    replace hc := hc.later hst2
    clear hst2
    clear hc2 hb1
    cases g with
    | true =>
      go_wp2_with fail
      go_ret
      exact ⟨rfl, (by repeat' (first | with_reducible exact hb2 | with_reducible refine Below.drew ?_ | with_reducible refine below_drewN ?_ _ | with_reducible refine Below.alloc ?_ (by have := hb2.size; first | (simp; done) | (simp; omega) | omega) _ | with_reducible refine Below.setCell ?_ (by first | (simp; done) | (simp; omega) | omega) _))⟩
    | false =>
    obtain ⟨hl30, _⟩ := hg rfl
    clear hg
    have hS : SIn w2 s ps a := ⟨s0, s4, hc, H_hkeys.out, by omega⟩
    go_wp2_with fail
    with_reducible refine (hchk _ hS).mono ?_
    rintro e w3 ⟨rfl, hc3⟩
    have hb3 : Below w.heap.size w w3 := bchain (by repeat' (first | with_reducible exact hb2 | with_reducible refine Below.drew ?_ | with_reducible refine below_drewN ?_ _ | with_reducible refine Below.alloc ?_ (by have := hb2.size; first | (simp; done) | (simp; omega) | omega) _ | with_reducible refine Below.setCell ?_ (by first | (simp; done) | (simp; omega) | omega) _)) hc3
    have hst3 : Below w2.heap.size w2 w3 := bchain (by repeat' (first | with_reducible exact Below.refl _ _ | with_reducible refine Below.drew ?_ | with_reducible refine below_drewN ?_ _ | with_reducible refine Below.alloc ?_ (by first | (simp; done) | (simp; omega) | omega) _ | with_reducible refine Below.setCell ?_ (by first | (simp; done) | (simp; omega) | omega) _)) hc3
    replace X_0 := cell_later hst3 X_0
    replace X_1 := cell_later hst3 X_1
    replace X_2 := cell_later hst3 X_2
    replace X_3 := cell_later hst3 X_3
    replace X_4 := cell_later hst3 X_4
    replace X_5 := cell_later hst3 X_5
    replace X_6 := cell_later hst3 X_6
    replace X_7 := cell_later hst3 X_7
    replace X_8 := cell_later hst3 X_8
    replace X_9 := cell_later hst3 X_9
    replace X_10 := cell_later hst3 X_10
    replace X_l := Nat.lt_of_lt_of_le X_l hst3.size
    replace P_0 := cell_later hst3 P_0
    replace P_1 := cell_later hst3 P_1
    replace P_l := Nat.lt_of_lt_of_le P_l hst3.size
    replace hS := hS.later hst3
    clear hst3
    clear hc3 hb2
    go_wp2_with fail
    go_ret
    exact ⟨rfl, (by repeat' (first | with_reducible exact hb3 | with_reducible refine Below.drew ?_ | with_reducible refine below_drewN ?_ _ | with_reducible refine Below.alloc ?_ (by have := hb3.size; first | (simp; done) | (simp; omega) | omega) _ | with_reducible refine Below.setCell ?_ (by first | (simp; done) | (simp; omega) | omega) _))⟩
end Go.Proofs.YthdldmkeoglflaaDoor
