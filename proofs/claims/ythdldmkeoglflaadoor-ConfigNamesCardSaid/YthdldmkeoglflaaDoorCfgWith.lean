/- config.With. -/
import Derived.Test.YthdldmkeoglflaaDoorCfgDel
import Derived.Test.YthdldmkeoglflaaDoorAppTwo
namespace Go.Proofs.YthdldmkeoglflaaDoor
set_option maxRecDepth 100000
set_option linter.unusedSimpArgs false
set_option linter.unusedVariables false
set_option linter.unnecessarySimpa false
open Go.RowKit

theorem insS_new (i n c base vb vc : Nat) (s : Option Addr) (xs news : List Value) (w : World) (hin : i ≤ n) (hown : OwnX w base 46 2 (.slice s n c) n xs) (hx1 : ∀ u ∈ xs, u.oneCell' = true) (hl : news.length = 2) (hv : w.heap[vb]? = some (.cells news.toArray 46 (0, 0))) (h1 : ∀ u ∈ news, u.oneCell' = true) (hb : n ≤ 1000000) (hbase : base ≤ w.heap.size) (hne : xs ≠ news) :
    Calls Tryd.prog 50 #[.slice s n c, .int .i64 i, .slice (some ⟨vb, 0, none⟩) 1 vc] w fun e w' =>
      InsRet w base (.slice s n c) n (xs.take (i * 2) ++ news ++ xs.drop (i * 2)) e w' := by
  by_cases hi : i = n
  · subst hi
    have hxl : xs.length = i * 2 := hown.1
    have hcv : CellsAt w (some ⟨vb, 0, none⟩) news := .inr ⟨vb, 0, rfl, fun j u hj => by rw [Nat.zero_add, cell_of_row w vb j news.toArray 46 (0, 0) hv]; simpa using hj⟩
    have := insS_end i c base vb vc s xs news w hown hl hcv h1 hb hbase
    rw [← hxl, List.take_length, List.drop_length, List.append_nil]
    exact this
  · refine insS_any i n c base vb vc s xs news w hin hown hx1 hl hv h1 hb hbase fun ad had hab => ?_
    subst had
    rcases hown.2 with ⟨e0, _⟩ | ⟨g, cap, cur, e0, hB, hg, hnc, hcm, hcs, htk⟩
    · cases e0
    · cases e0
      simp only at hab
      subst hab
      rw [hv] at hg
      simp only [Option.some.injEq, Obj.cells.injEq] at hg
      have hcur := hg.1
      have hs2 : cur.size = 2 := by rw [← hcur, List.size_toArray, hl]
      have hc1 : c = 1 := by omega
      have hn1 : n = 1 := by omega
      refine hne ?_
      rw [← htk, ← hcur, hn1]
      exact List.take_of_length_le (by rw [List.toList_toArray, hl]; omega)

/-- A setup that goes out, with an error. -/
structure SOut where
  lim : Lim
  sec : Int
  ps : Peers
  err : Int
def zOut (E : Int) : SOut := ⟨⟨0, 0, 0, 0, 0, 0, 0, 0, 0⟩, 0, [], E⟩
def RetS (w' : World) (e : Ending) (r : SOut) : Prop :=
  ∃ a' c', e = .returned (.tuple #[.agg #[.int .i64 r.lim.a, .int .i64 r.lim.b, .int .i64 r.lim.c, .int .i64 r.lim.d, .int .i64 r.lim.e, .int .i64 r.lim.f, .int .i64 r.lim.g, .int .i64 r.lim.h, .int .i64 r.lim.i, .int .u32 r.sec, .slice a' r.ps.length c'], .int .i64 r.err]) ∧ CellsAt w' a' (cel r.ps)
theorem RetS.of {w' : World} {e : Ending} {r r' : SOut} (h : RetS w' e r) (h' : r = r') : RetS w' e r' := h' ▸ h
def withR (L : Lim) (s : Int) (ps : Peers) (n : ByteArray) (q E : Int) : SOut :=
  if E = 0 then (if okN n && isB q then (if hasN ps n then zOut 14 else (if whoN (pubK s) ps q < ps.length then zOut 14 else (if ps.length = 8 then zOut 18 else ⟨L, s, ps.take (lb ps n) ++ (n, q) :: ps.drop (lb ps n), 0⟩))) else zOut 8) else zOut E
/-- A new slice of one peer. -/
def VNewP (news : List Value) : Value → World → Prop := fun v w => ∃ vb vc, v = .slice (some ⟨vb, 0, none⟩) 1 vc ∧ Blk w vb 46 news
theorem VNewP.last {news : List Value} (v : Value) (w w' : World) (h : VNewP news v w) (hb : Below w.heap.size w w') : VNewP news v w' := by
  obtain ⟨vb, vc, rfl, h⟩ := h; exact ⟨vb, vc, rfl, h.later hb⟩

set_option maxHeartbeats 4000000 in
theorem With_any (l0 l1 l2 l3 l4 l5 l6 l7 l8 : Int) (s q : Int) (n : ByteArray) (ps : Peers) (a : Option Addr) (c : Nat) (w : World) (hS : SIn w s ps a) (q0 : 0 ≤ q) (q4 : q < 4294967296) (E : Int) (hE : chkS (⟨l0, l1, l2, l3, l4, l5, l6, l7, l8⟩ : Lim) s ps = E) :
    Calls Tryd.prog 21 #[.agg #[.int .i64 l0, .int .i64 l1, .int .i64 l2, .int .i64 l3, .int .i64 l4, .int .i64 l5, .int .i64 l6, .int .i64 l7, .int .i64 l8, .int .u32 s, .slice a ps.length c], .agg #[.string n, .int .u32 q]] w fun e w' =>
      RetS w' e (withR (⟨l0, l1, l2, l3, l4, l5, l6, l7, l8⟩ : Lim) s ps n q E) ∧ Below w.heap.size w w' := by
  have hwho := fun W h => Who_any l0 l1 l2 l3 l4 l5 l6 l7 l8 s q ps a c W h E hE
  unfold RetSI at hwho
  obtain ⟨R, hR⟩ : ∃ R, withR (⟨l0, l1, l2, l3, l4, l5, l6, l7, l8⟩ : Lim) s ps n q E = R := ⟨_, rfl⟩
  rw [hR]
  by_cases h0 : E = 0
  · subst h0
    have hcv := CV.of hE
    have hinc := hcv.inc
    have hl8 := hcv.len
    have hnm := fun W (h : SIn W s ps a) => named_any l0 l1 l2 l3 l4 l5 l6 l7 l8 s n ps a c W h.cells h.len hinc
    have hval := fun W => valid_any n q W q0 q4
    obtain ⟨nv, ev, hev, hw⟩ : ∃ nv ev, whoR (pubK s) 0 ps q = (nv, ev) ∧ (ev = 0 ∧ whoN (pubK s) ps q < ps.length ∨ ev = 6 ∧ ¬ whoN (pubK s) ps q < ps.length) := by
      unfold whoR whoN
      rw [if_pos rfl]
      by_cases hK : pubK s = q
      · rw [if_pos hK, if_pos hK]; exact ⟨_, _, rfl, .inl ⟨rfl, by omega⟩⟩
      · rw [if_neg hK, if_neg hK]
        by_cases hlt : pi ps q < ps.length
        · rw [if_pos hlt]; exact ⟨_, _, rfl, .inl ⟨rfl, by omega⟩⟩
        · rw [if_neg hlt]; exact ⟨_, _, rfl, .inr ⟨rfl, by omega⟩⟩
    simp only [hev] at hwho
    cases hb : (okN n && isB q) with
    | false =>
      have hr2 : zOut 8 = R := by rw [← hR]; unfold withR; rw [if_pos rfl, hb]; rfl
      rw [hb] at hval
      rcases hw with ⟨he, hw⟩ | ⟨he, hw⟩
      · subst he
        have H_hR := Box.mk hR
        have H_hE := Box.mk hE
        have H_hr2 := Box.mk hr2
        have H_hwho := Box.mk hwho
        have H_hval := Box.mk hval
        have H_hnm := Box.mk hnm
        have H_hev := Box.mk hev
        have H_hcv := Box.mk hcv
        have H_hinc := Box.mk hinc
        have H_hw := Box.mk hw
        have H_hb := Box.mk hb
        clear hR hE hr2 hwho hval hnm hev hcv hinc hw hb
        go_enter Tryd.func21, Tryd.ntmps21
        have hb0 := Below.refl w.heap.size w
        go_wp2_with fail
        with_reducible refine (H_hwho.out _ (((hS.alloc _).alloc _).alloc _)).mono ?_
        rintro e w1 ⟨rfl, hc1⟩
        have hb1 : Below w.heap.size w w1 := bchain (by repeat' (first | with_reducible exact hb0 | with_reducible refine Below.drew ?_ | with_reducible refine below_drewN ?_ _ | with_reducible refine Below.alloc ?_ (by have := hb0.size; first | (simp; done) | (simp; omega) | omega) _ | with_reducible refine Below.setCell ?_ (by first | (simp; done) | (simp; omega) | omega) _)) hc1
        have hst1 : Below w.heap.size w w1 := bchain (by repeat' (first | with_reducible exact Below.refl _ _ | with_reducible refine Below.drew ?_ | with_reducible refine below_drewN ?_ _ | with_reducible refine Below.alloc ?_ (by first | (simp; done) | (simp; omega) | omega) _ | with_reducible refine Below.setCell ?_ (by first | (simp; done) | (simp; omega) | omega) _)) hc1
        have X_0 : w1.cell? ⟨w.heap.size, 0, none⟩ = some (.int .i64 l0) := (hc1.cell (p := ⟨w.heap.size, 0, none⟩) (by first | (simp; done) | (simp; omega))).trans (by first | (simp; done) | go_simp)
        have X_1 : w1.cell? ⟨w.heap.size, 1, none⟩ = some (.int .i64 l1) := (hc1.cell (p := ⟨w.heap.size, 1, none⟩) (by first | (simp; done) | (simp; omega))).trans (by first | (simp; done) | go_simp)
        have X_2 : w1.cell? ⟨w.heap.size, 2, none⟩ = some (.int .i64 l2) := (hc1.cell (p := ⟨w.heap.size, 2, none⟩) (by first | (simp; done) | (simp; omega))).trans (by first | (simp; done) | go_simp)
        have X_3 : w1.cell? ⟨w.heap.size, 3, none⟩ = some (.int .i64 l3) := (hc1.cell (p := ⟨w.heap.size, 3, none⟩) (by first | (simp; done) | (simp; omega))).trans (by first | (simp; done) | go_simp)
        have X_4 : w1.cell? ⟨w.heap.size, 4, none⟩ = some (.int .i64 l4) := (hc1.cell (p := ⟨w.heap.size, 4, none⟩) (by first | (simp; done) | (simp; omega))).trans (by first | (simp; done) | go_simp)
        have X_5 : w1.cell? ⟨w.heap.size, 5, none⟩ = some (.int .i64 l5) := (hc1.cell (p := ⟨w.heap.size, 5, none⟩) (by first | (simp; done) | (simp; omega))).trans (by first | (simp; done) | go_simp)
        have X_6 : w1.cell? ⟨w.heap.size, 6, none⟩ = some (.int .i64 l6) := (hc1.cell (p := ⟨w.heap.size, 6, none⟩) (by first | (simp; done) | (simp; omega))).trans (by first | (simp; done) | go_simp)
        have X_7 : w1.cell? ⟨w.heap.size, 7, none⟩ = some (.int .i64 l7) := (hc1.cell (p := ⟨w.heap.size, 7, none⟩) (by first | (simp; done) | (simp; omega))).trans (by first | (simp; done) | go_simp)
        have X_8 : w1.cell? ⟨w.heap.size, 8, none⟩ = some (.int .i64 l8) := (hc1.cell (p := ⟨w.heap.size, 8, none⟩) (by first | (simp; done) | (simp; omega))).trans (by first | (simp; done) | go_simp)
        have X_9 : w1.cell? ⟨w.heap.size, 9, none⟩ = some (.int .u32 s) := (hc1.cell (p := ⟨w.heap.size, 9, none⟩) (by first | (simp; done) | (simp; omega))).trans (by first | (simp; done) | go_simp)
        have X_10 : w1.cell? ⟨w.heap.size, 10, none⟩ = some (.slice a ps.length c) := (hc1.cell (p := ⟨w.heap.size, 10, none⟩) (by first | (simp; done) | (simp; omega))).trans (by first | (simp; done) | go_simp)
        have X_f0 : w1.frozen? ⟨w.heap.size, 0, none⟩ = false := (hc1.frozen (p := ⟨w.heap.size, 0, none⟩) (by first | (simp; done) | (simp; omega))).trans (by first | (simp; done) | go_simp)
        have X_f1 : w1.frozen? ⟨w.heap.size, 1, none⟩ = false := (hc1.frozen (p := ⟨w.heap.size, 1, none⟩) (by first | (simp; done) | (simp; omega))).trans (by first | (simp; done) | go_simp)
        have X_f2 : w1.frozen? ⟨w.heap.size, 2, none⟩ = false := (hc1.frozen (p := ⟨w.heap.size, 2, none⟩) (by first | (simp; done) | (simp; omega))).trans (by first | (simp; done) | go_simp)
        have X_f3 : w1.frozen? ⟨w.heap.size, 3, none⟩ = false := (hc1.frozen (p := ⟨w.heap.size, 3, none⟩) (by first | (simp; done) | (simp; omega))).trans (by first | (simp; done) | go_simp)
        have X_f4 : w1.frozen? ⟨w.heap.size, 4, none⟩ = false := (hc1.frozen (p := ⟨w.heap.size, 4, none⟩) (by first | (simp; done) | (simp; omega))).trans (by first | (simp; done) | go_simp)
        have X_f5 : w1.frozen? ⟨w.heap.size, 5, none⟩ = false := (hc1.frozen (p := ⟨w.heap.size, 5, none⟩) (by first | (simp; done) | (simp; omega))).trans (by first | (simp; done) | go_simp)
        have X_f6 : w1.frozen? ⟨w.heap.size, 6, none⟩ = false := (hc1.frozen (p := ⟨w.heap.size, 6, none⟩) (by first | (simp; done) | (simp; omega))).trans (by first | (simp; done) | go_simp)
        have X_f7 : w1.frozen? ⟨w.heap.size, 7, none⟩ = false := (hc1.frozen (p := ⟨w.heap.size, 7, none⟩) (by first | (simp; done) | (simp; omega))).trans (by first | (simp; done) | go_simp)
        have X_f8 : w1.frozen? ⟨w.heap.size, 8, none⟩ = false := (hc1.frozen (p := ⟨w.heap.size, 8, none⟩) (by first | (simp; done) | (simp; omega))).trans (by first | (simp; done) | go_simp)
        have X_f9 : w1.frozen? ⟨w.heap.size, 9, none⟩ = false := (hc1.frozen (p := ⟨w.heap.size, 9, none⟩) (by first | (simp; done) | (simp; omega))).trans (by first | (simp; done) | go_simp)
        have X_f10 : w1.frozen? ⟨w.heap.size, 10, none⟩ = false := (hc1.frozen (p := ⟨w.heap.size, 10, none⟩) (by first | (simp; done) | (simp; omega))).trans (by first | (simp; done) | go_simp)
        have X_l : w.heap.size < w1.heap.size := Nat.lt_of_lt_of_le (by first | (simp; done) | (simp; omega)) hc1.size
        have P_0 : w1.cell? ⟨w.heap.size + 1, 0, none⟩ = some (.string n) := (hc1.cell (p := ⟨w.heap.size + 1, 0, none⟩) (by first | (simp; done) | (simp; omega))).trans (by first | (simp; done) | go_simp)
        have P_1 : w1.cell? ⟨w.heap.size + 1, 1, none⟩ = some (.int .u32 q) := (hc1.cell (p := ⟨w.heap.size + 1, 1, none⟩) (by first | (simp; done) | (simp; omega))).trans (by first | (simp; done) | go_simp)
        have P_l : w.heap.size + 1 < w1.heap.size := Nat.lt_of_lt_of_le (by first | (simp; done) | (simp; omega)) hc1.size
        have R_0 : w1.cell? ⟨w.heap.size + 2, 0, none⟩ = some (.int .i64 0) := (hc1.cell (p := ⟨w.heap.size + 2, 0, none⟩) (by first | (simp; done) | (simp; omega))).trans (by first | (simp; done) | go_simp)
        have R_1 : w1.cell? ⟨w.heap.size + 2, 1, none⟩ = some (.int .i64 0) := (hc1.cell (p := ⟨w.heap.size + 2, 1, none⟩) (by first | (simp; done) | (simp; omega))).trans (by first | (simp; done) | go_simp)
        have R_2 : w1.cell? ⟨w.heap.size + 2, 2, none⟩ = some (.int .i64 0) := (hc1.cell (p := ⟨w.heap.size + 2, 2, none⟩) (by first | (simp; done) | (simp; omega))).trans (by first | (simp; done) | go_simp)
        have R_3 : w1.cell? ⟨w.heap.size + 2, 3, none⟩ = some (.int .i64 0) := (hc1.cell (p := ⟨w.heap.size + 2, 3, none⟩) (by first | (simp; done) | (simp; omega))).trans (by first | (simp; done) | go_simp)
        have R_4 : w1.cell? ⟨w.heap.size + 2, 4, none⟩ = some (.int .i64 0) := (hc1.cell (p := ⟨w.heap.size + 2, 4, none⟩) (by first | (simp; done) | (simp; omega))).trans (by first | (simp; done) | go_simp)
        have R_5 : w1.cell? ⟨w.heap.size + 2, 5, none⟩ = some (.int .i64 0) := (hc1.cell (p := ⟨w.heap.size + 2, 5, none⟩) (by first | (simp; done) | (simp; omega))).trans (by first | (simp; done) | go_simp)
        have R_6 : w1.cell? ⟨w.heap.size + 2, 6, none⟩ = some (.int .i64 0) := (hc1.cell (p := ⟨w.heap.size + 2, 6, none⟩) (by first | (simp; done) | (simp; omega))).trans (by first | (simp; done) | go_simp)
        have R_7 : w1.cell? ⟨w.heap.size + 2, 7, none⟩ = some (.int .i64 0) := (hc1.cell (p := ⟨w.heap.size + 2, 7, none⟩) (by first | (simp; done) | (simp; omega))).trans (by first | (simp; done) | go_simp)
        have R_8 : w1.cell? ⟨w.heap.size + 2, 8, none⟩ = some (.int .i64 0) := (hc1.cell (p := ⟨w.heap.size + 2, 8, none⟩) (by first | (simp; done) | (simp; omega))).trans (by first | (simp; done) | go_simp)
        have R_9 : w1.cell? ⟨w.heap.size + 2, 9, none⟩ = some (.int .u32 0) := (hc1.cell (p := ⟨w.heap.size + 2, 9, none⟩) (by first | (simp; done) | (simp; omega))).trans (by first | (simp; done) | go_simp)
        have R_10 : w1.cell? ⟨w.heap.size + 2, 10, none⟩ = some (.slice none 0 0) := (hc1.cell (p := ⟨w.heap.size + 2, 10, none⟩) (by first | (simp; done) | (simp; omega))).trans (by first | (simp; done) | go_simp)
        have R_f0 : w1.frozen? ⟨w.heap.size + 2, 0, none⟩ = false := (hc1.frozen (p := ⟨w.heap.size + 2, 0, none⟩) (by first | (simp; done) | (simp; omega))).trans (by first | (simp; done) | go_simp)
        have R_f1 : w1.frozen? ⟨w.heap.size + 2, 1, none⟩ = false := (hc1.frozen (p := ⟨w.heap.size + 2, 1, none⟩) (by first | (simp; done) | (simp; omega))).trans (by first | (simp; done) | go_simp)
        have R_f2 : w1.frozen? ⟨w.heap.size + 2, 2, none⟩ = false := (hc1.frozen (p := ⟨w.heap.size + 2, 2, none⟩) (by first | (simp; done) | (simp; omega))).trans (by first | (simp; done) | go_simp)
        have R_f3 : w1.frozen? ⟨w.heap.size + 2, 3, none⟩ = false := (hc1.frozen (p := ⟨w.heap.size + 2, 3, none⟩) (by first | (simp; done) | (simp; omega))).trans (by first | (simp; done) | go_simp)
        have R_f4 : w1.frozen? ⟨w.heap.size + 2, 4, none⟩ = false := (hc1.frozen (p := ⟨w.heap.size + 2, 4, none⟩) (by first | (simp; done) | (simp; omega))).trans (by first | (simp; done) | go_simp)
        have R_f5 : w1.frozen? ⟨w.heap.size + 2, 5, none⟩ = false := (hc1.frozen (p := ⟨w.heap.size + 2, 5, none⟩) (by first | (simp; done) | (simp; omega))).trans (by first | (simp; done) | go_simp)
        have R_f6 : w1.frozen? ⟨w.heap.size + 2, 6, none⟩ = false := (hc1.frozen (p := ⟨w.heap.size + 2, 6, none⟩) (by first | (simp; done) | (simp; omega))).trans (by first | (simp; done) | go_simp)
        have R_f7 : w1.frozen? ⟨w.heap.size + 2, 7, none⟩ = false := (hc1.frozen (p := ⟨w.heap.size + 2, 7, none⟩) (by first | (simp; done) | (simp; omega))).trans (by first | (simp; done) | go_simp)
        have R_f8 : w1.frozen? ⟨w.heap.size + 2, 8, none⟩ = false := (hc1.frozen (p := ⟨w.heap.size + 2, 8, none⟩) (by first | (simp; done) | (simp; omega))).trans (by first | (simp; done) | go_simp)
        have R_f9 : w1.frozen? ⟨w.heap.size + 2, 9, none⟩ = false := (hc1.frozen (p := ⟨w.heap.size + 2, 9, none⟩) (by first | (simp; done) | (simp; omega))).trans (by first | (simp; done) | go_simp)
        have R_f10 : w1.frozen? ⟨w.heap.size + 2, 10, none⟩ = false := (hc1.frozen (p := ⟨w.heap.size + 2, 10, none⟩) (by first | (simp; done) | (simp; omega))).trans (by first | (simp; done) | go_simp)
        have R_l : w.heap.size + 2 < w1.heap.size := Nat.lt_of_lt_of_le (by first | (simp; done) | (simp; omega)) hc1.size
        replace hS := hS.later hst1
        clear hst1
        clear hc1 hb0
        go_wp2_with fail
        with_reducible refine (H_hval.out _).mono ?_
        rintro e w2 ⟨rfl, hc2⟩
        have hb2 : Below w.heap.size w w2 := bchain (by repeat' (first | with_reducible exact hb1 | with_reducible refine Below.drew ?_ | with_reducible refine below_drewN ?_ _ | with_reducible refine Below.alloc ?_ (by have := hb1.size; first | (simp; done) | (simp; omega) | omega) _ | with_reducible refine Below.setCell ?_ (by first | (simp; done) | (simp; omega) | omega) _)) hc2
        have hst2 : Below w1.heap.size w1 w2 := bchain (by repeat' (first | with_reducible exact Below.refl _ _ | with_reducible refine Below.drew ?_ | with_reducible refine below_drewN ?_ _ | with_reducible refine Below.alloc ?_ (by first | (simp; done) | (simp; omega) | omega) _ | with_reducible refine Below.setCell ?_ (by first | (simp; done) | (simp; omega) | omega) _)) hc2
        replace X_0 := cell_later hst2 X_0
        replace X_1 := cell_later hst2 X_1
        replace X_2 := cell_later hst2 X_2
        replace X_3 := cell_later hst2 X_3
        replace X_4 := cell_later hst2 X_4
        replace X_5 := cell_later hst2 X_5
        replace X_6 := cell_later hst2 X_6
        replace X_7 := cell_later hst2 X_7
        replace X_8 := cell_later hst2 X_8
        replace X_9 := cell_later hst2 X_9
        replace X_10 := cell_later hst2 X_10
        replace X_f0 := frozen_later hst2 X_l X_f0
        replace X_f1 := frozen_later hst2 X_l X_f1
        replace X_f2 := frozen_later hst2 X_l X_f2
        replace X_f3 := frozen_later hst2 X_l X_f3
        replace X_f4 := frozen_later hst2 X_l X_f4
        replace X_f5 := frozen_later hst2 X_l X_f5
        replace X_f6 := frozen_later hst2 X_l X_f6
        replace X_f7 := frozen_later hst2 X_l X_f7
        replace X_f8 := frozen_later hst2 X_l X_f8
        replace X_f9 := frozen_later hst2 X_l X_f9
        replace X_f10 := frozen_later hst2 X_l X_f10
        replace X_l := Nat.lt_of_lt_of_le X_l hst2.size
        replace P_0 := cell_later hst2 P_0
        replace P_1 := cell_later hst2 P_1
        replace P_l := Nat.lt_of_lt_of_le P_l hst2.size
        replace R_0 := cell_later hst2 R_0
        replace R_1 := cell_later hst2 R_1
        replace R_2 := cell_later hst2 R_2
        replace R_3 := cell_later hst2 R_3
        replace R_4 := cell_later hst2 R_4
        replace R_5 := cell_later hst2 R_5
        replace R_6 := cell_later hst2 R_6
        replace R_7 := cell_later hst2 R_7
        replace R_8 := cell_later hst2 R_8
        replace R_9 := cell_later hst2 R_9
        replace R_10 := cell_later hst2 R_10
        replace R_f0 := frozen_later hst2 R_l R_f0
        replace R_f1 := frozen_later hst2 R_l R_f1
        replace R_f2 := frozen_later hst2 R_l R_f2
        replace R_f3 := frozen_later hst2 R_l R_f3
        replace R_f4 := frozen_later hst2 R_l R_f4
        replace R_f5 := frozen_later hst2 R_l R_f5
        replace R_f6 := frozen_later hst2 R_l R_f6
        replace R_f7 := frozen_later hst2 R_l R_f7
        replace R_f8 := frozen_later hst2 R_l R_f8
        replace R_f9 := frozen_later hst2 R_l R_f9
        replace R_f10 := frozen_later hst2 R_l R_f10
        replace R_l := Nat.lt_of_lt_of_le R_l hst2.size
        replace hS := hS.later hst2
        clear hst2
        clear hc2 hb1
        go_wp2_with fail
        refine bodyPost_ret (v := .tuple #[.agg #[.int .i64 0, .int .i64 0, .int .i64 0, .int .i64 0, .int .i64 0, .int .i64 0, .int .i64 0, .int .i64 0, .int .i64 0, .int .u32 0, .slice none 0 0], .int .i64 8]) (by simp [results, Tryd.results21, go_sem, *]) rfl ⟨RetS.of (r := zOut 8) ⟨none, 0, rfl, .inl rfl⟩ H_hr2.out, (by repeat' (first | with_reducible exact hb2 | with_reducible refine Below.drew ?_ | with_reducible refine below_drewN ?_ _ | with_reducible refine Below.alloc ?_ (by have := hb2.size; first | (simp; done) | (simp; omega) | omega) _ | with_reducible refine Below.setCell ?_ (by first | (simp; done) | (simp; omega) | omega) _))⟩
      · subst he
        have H_hR := Box.mk hR
        have H_hE := Box.mk hE
        have H_hr2 := Box.mk hr2
        have H_hwho := Box.mk hwho
        have H_hval := Box.mk hval
        have H_hnm := Box.mk hnm
        have H_hev := Box.mk hev
        have H_hcv := Box.mk hcv
        have H_hinc := Box.mk hinc
        have H_hw := Box.mk hw
        have H_hb := Box.mk hb
        clear hR hE hr2 hwho hval hnm hev hcv hinc hw hb
        go_enter Tryd.func21, Tryd.ntmps21
        have hb0 := Below.refl w.heap.size w
        go_wp2_with fail
        with_reducible refine (H_hwho.out _ (((hS.alloc _).alloc _).alloc _)).mono ?_
        rintro e w1 ⟨rfl, hc1⟩
        have hb1 : Below w.heap.size w w1 := bchain (by repeat' (first | with_reducible exact hb0 | with_reducible refine Below.drew ?_ | with_reducible refine below_drewN ?_ _ | with_reducible refine Below.alloc ?_ (by have := hb0.size; first | (simp; done) | (simp; omega) | omega) _ | with_reducible refine Below.setCell ?_ (by first | (simp; done) | (simp; omega) | omega) _)) hc1
        have hst1 : Below w.heap.size w w1 := bchain (by repeat' (first | with_reducible exact Below.refl _ _ | with_reducible refine Below.drew ?_ | with_reducible refine below_drewN ?_ _ | with_reducible refine Below.alloc ?_ (by first | (simp; done) | (simp; omega) | omega) _ | with_reducible refine Below.setCell ?_ (by first | (simp; done) | (simp; omega) | omega) _)) hc1
        have X_0 : w1.cell? ⟨w.heap.size, 0, none⟩ = some (.int .i64 l0) := (hc1.cell (p := ⟨w.heap.size, 0, none⟩) (by first | (simp; done) | (simp; omega))).trans (by first | (simp; done) | go_simp)
        have X_1 : w1.cell? ⟨w.heap.size, 1, none⟩ = some (.int .i64 l1) := (hc1.cell (p := ⟨w.heap.size, 1, none⟩) (by first | (simp; done) | (simp; omega))).trans (by first | (simp; done) | go_simp)
        have X_2 : w1.cell? ⟨w.heap.size, 2, none⟩ = some (.int .i64 l2) := (hc1.cell (p := ⟨w.heap.size, 2, none⟩) (by first | (simp; done) | (simp; omega))).trans (by first | (simp; done) | go_simp)
        have X_3 : w1.cell? ⟨w.heap.size, 3, none⟩ = some (.int .i64 l3) := (hc1.cell (p := ⟨w.heap.size, 3, none⟩) (by first | (simp; done) | (simp; omega))).trans (by first | (simp; done) | go_simp)
        have X_4 : w1.cell? ⟨w.heap.size, 4, none⟩ = some (.int .i64 l4) := (hc1.cell (p := ⟨w.heap.size, 4, none⟩) (by first | (simp; done) | (simp; omega))).trans (by first | (simp; done) | go_simp)
        have X_5 : w1.cell? ⟨w.heap.size, 5, none⟩ = some (.int .i64 l5) := (hc1.cell (p := ⟨w.heap.size, 5, none⟩) (by first | (simp; done) | (simp; omega))).trans (by first | (simp; done) | go_simp)
        have X_6 : w1.cell? ⟨w.heap.size, 6, none⟩ = some (.int .i64 l6) := (hc1.cell (p := ⟨w.heap.size, 6, none⟩) (by first | (simp; done) | (simp; omega))).trans (by first | (simp; done) | go_simp)
        have X_7 : w1.cell? ⟨w.heap.size, 7, none⟩ = some (.int .i64 l7) := (hc1.cell (p := ⟨w.heap.size, 7, none⟩) (by first | (simp; done) | (simp; omega))).trans (by first | (simp; done) | go_simp)
        have X_8 : w1.cell? ⟨w.heap.size, 8, none⟩ = some (.int .i64 l8) := (hc1.cell (p := ⟨w.heap.size, 8, none⟩) (by first | (simp; done) | (simp; omega))).trans (by first | (simp; done) | go_simp)
        have X_9 : w1.cell? ⟨w.heap.size, 9, none⟩ = some (.int .u32 s) := (hc1.cell (p := ⟨w.heap.size, 9, none⟩) (by first | (simp; done) | (simp; omega))).trans (by first | (simp; done) | go_simp)
        have X_10 : w1.cell? ⟨w.heap.size, 10, none⟩ = some (.slice a ps.length c) := (hc1.cell (p := ⟨w.heap.size, 10, none⟩) (by first | (simp; done) | (simp; omega))).trans (by first | (simp; done) | go_simp)
        have X_f0 : w1.frozen? ⟨w.heap.size, 0, none⟩ = false := (hc1.frozen (p := ⟨w.heap.size, 0, none⟩) (by first | (simp; done) | (simp; omega))).trans (by first | (simp; done) | go_simp)
        have X_f1 : w1.frozen? ⟨w.heap.size, 1, none⟩ = false := (hc1.frozen (p := ⟨w.heap.size, 1, none⟩) (by first | (simp; done) | (simp; omega))).trans (by first | (simp; done) | go_simp)
        have X_f2 : w1.frozen? ⟨w.heap.size, 2, none⟩ = false := (hc1.frozen (p := ⟨w.heap.size, 2, none⟩) (by first | (simp; done) | (simp; omega))).trans (by first | (simp; done) | go_simp)
        have X_f3 : w1.frozen? ⟨w.heap.size, 3, none⟩ = false := (hc1.frozen (p := ⟨w.heap.size, 3, none⟩) (by first | (simp; done) | (simp; omega))).trans (by first | (simp; done) | go_simp)
        have X_f4 : w1.frozen? ⟨w.heap.size, 4, none⟩ = false := (hc1.frozen (p := ⟨w.heap.size, 4, none⟩) (by first | (simp; done) | (simp; omega))).trans (by first | (simp; done) | go_simp)
        have X_f5 : w1.frozen? ⟨w.heap.size, 5, none⟩ = false := (hc1.frozen (p := ⟨w.heap.size, 5, none⟩) (by first | (simp; done) | (simp; omega))).trans (by first | (simp; done) | go_simp)
        have X_f6 : w1.frozen? ⟨w.heap.size, 6, none⟩ = false := (hc1.frozen (p := ⟨w.heap.size, 6, none⟩) (by first | (simp; done) | (simp; omega))).trans (by first | (simp; done) | go_simp)
        have X_f7 : w1.frozen? ⟨w.heap.size, 7, none⟩ = false := (hc1.frozen (p := ⟨w.heap.size, 7, none⟩) (by first | (simp; done) | (simp; omega))).trans (by first | (simp; done) | go_simp)
        have X_f8 : w1.frozen? ⟨w.heap.size, 8, none⟩ = false := (hc1.frozen (p := ⟨w.heap.size, 8, none⟩) (by first | (simp; done) | (simp; omega))).trans (by first | (simp; done) | go_simp)
        have X_f9 : w1.frozen? ⟨w.heap.size, 9, none⟩ = false := (hc1.frozen (p := ⟨w.heap.size, 9, none⟩) (by first | (simp; done) | (simp; omega))).trans (by first | (simp; done) | go_simp)
        have X_f10 : w1.frozen? ⟨w.heap.size, 10, none⟩ = false := (hc1.frozen (p := ⟨w.heap.size, 10, none⟩) (by first | (simp; done) | (simp; omega))).trans (by first | (simp; done) | go_simp)
        have X_l : w.heap.size < w1.heap.size := Nat.lt_of_lt_of_le (by first | (simp; done) | (simp; omega)) hc1.size
        have P_0 : w1.cell? ⟨w.heap.size + 1, 0, none⟩ = some (.string n) := (hc1.cell (p := ⟨w.heap.size + 1, 0, none⟩) (by first | (simp; done) | (simp; omega))).trans (by first | (simp; done) | go_simp)
        have P_1 : w1.cell? ⟨w.heap.size + 1, 1, none⟩ = some (.int .u32 q) := (hc1.cell (p := ⟨w.heap.size + 1, 1, none⟩) (by first | (simp; done) | (simp; omega))).trans (by first | (simp; done) | go_simp)
        have P_l : w.heap.size + 1 < w1.heap.size := Nat.lt_of_lt_of_le (by first | (simp; done) | (simp; omega)) hc1.size
        have R_0 : w1.cell? ⟨w.heap.size + 2, 0, none⟩ = some (.int .i64 0) := (hc1.cell (p := ⟨w.heap.size + 2, 0, none⟩) (by first | (simp; done) | (simp; omega))).trans (by first | (simp; done) | go_simp)
        have R_1 : w1.cell? ⟨w.heap.size + 2, 1, none⟩ = some (.int .i64 0) := (hc1.cell (p := ⟨w.heap.size + 2, 1, none⟩) (by first | (simp; done) | (simp; omega))).trans (by first | (simp; done) | go_simp)
        have R_2 : w1.cell? ⟨w.heap.size + 2, 2, none⟩ = some (.int .i64 0) := (hc1.cell (p := ⟨w.heap.size + 2, 2, none⟩) (by first | (simp; done) | (simp; omega))).trans (by first | (simp; done) | go_simp)
        have R_3 : w1.cell? ⟨w.heap.size + 2, 3, none⟩ = some (.int .i64 0) := (hc1.cell (p := ⟨w.heap.size + 2, 3, none⟩) (by first | (simp; done) | (simp; omega))).trans (by first | (simp; done) | go_simp)
        have R_4 : w1.cell? ⟨w.heap.size + 2, 4, none⟩ = some (.int .i64 0) := (hc1.cell (p := ⟨w.heap.size + 2, 4, none⟩) (by first | (simp; done) | (simp; omega))).trans (by first | (simp; done) | go_simp)
        have R_5 : w1.cell? ⟨w.heap.size + 2, 5, none⟩ = some (.int .i64 0) := (hc1.cell (p := ⟨w.heap.size + 2, 5, none⟩) (by first | (simp; done) | (simp; omega))).trans (by first | (simp; done) | go_simp)
        have R_6 : w1.cell? ⟨w.heap.size + 2, 6, none⟩ = some (.int .i64 0) := (hc1.cell (p := ⟨w.heap.size + 2, 6, none⟩) (by first | (simp; done) | (simp; omega))).trans (by first | (simp; done) | go_simp)
        have R_7 : w1.cell? ⟨w.heap.size + 2, 7, none⟩ = some (.int .i64 0) := (hc1.cell (p := ⟨w.heap.size + 2, 7, none⟩) (by first | (simp; done) | (simp; omega))).trans (by first | (simp; done) | go_simp)
        have R_8 : w1.cell? ⟨w.heap.size + 2, 8, none⟩ = some (.int .i64 0) := (hc1.cell (p := ⟨w.heap.size + 2, 8, none⟩) (by first | (simp; done) | (simp; omega))).trans (by first | (simp; done) | go_simp)
        have R_9 : w1.cell? ⟨w.heap.size + 2, 9, none⟩ = some (.int .u32 0) := (hc1.cell (p := ⟨w.heap.size + 2, 9, none⟩) (by first | (simp; done) | (simp; omega))).trans (by first | (simp; done) | go_simp)
        have R_10 : w1.cell? ⟨w.heap.size + 2, 10, none⟩ = some (.slice none 0 0) := (hc1.cell (p := ⟨w.heap.size + 2, 10, none⟩) (by first | (simp; done) | (simp; omega))).trans (by first | (simp; done) | go_simp)
        have R_f0 : w1.frozen? ⟨w.heap.size + 2, 0, none⟩ = false := (hc1.frozen (p := ⟨w.heap.size + 2, 0, none⟩) (by first | (simp; done) | (simp; omega))).trans (by first | (simp; done) | go_simp)
        have R_f1 : w1.frozen? ⟨w.heap.size + 2, 1, none⟩ = false := (hc1.frozen (p := ⟨w.heap.size + 2, 1, none⟩) (by first | (simp; done) | (simp; omega))).trans (by first | (simp; done) | go_simp)
        have R_f2 : w1.frozen? ⟨w.heap.size + 2, 2, none⟩ = false := (hc1.frozen (p := ⟨w.heap.size + 2, 2, none⟩) (by first | (simp; done) | (simp; omega))).trans (by first | (simp; done) | go_simp)
        have R_f3 : w1.frozen? ⟨w.heap.size + 2, 3, none⟩ = false := (hc1.frozen (p := ⟨w.heap.size + 2, 3, none⟩) (by first | (simp; done) | (simp; omega))).trans (by first | (simp; done) | go_simp)
        have R_f4 : w1.frozen? ⟨w.heap.size + 2, 4, none⟩ = false := (hc1.frozen (p := ⟨w.heap.size + 2, 4, none⟩) (by first | (simp; done) | (simp; omega))).trans (by first | (simp; done) | go_simp)
        have R_f5 : w1.frozen? ⟨w.heap.size + 2, 5, none⟩ = false := (hc1.frozen (p := ⟨w.heap.size + 2, 5, none⟩) (by first | (simp; done) | (simp; omega))).trans (by first | (simp; done) | go_simp)
        have R_f6 : w1.frozen? ⟨w.heap.size + 2, 6, none⟩ = false := (hc1.frozen (p := ⟨w.heap.size + 2, 6, none⟩) (by first | (simp; done) | (simp; omega))).trans (by first | (simp; done) | go_simp)
        have R_f7 : w1.frozen? ⟨w.heap.size + 2, 7, none⟩ = false := (hc1.frozen (p := ⟨w.heap.size + 2, 7, none⟩) (by first | (simp; done) | (simp; omega))).trans (by first | (simp; done) | go_simp)
        have R_f8 : w1.frozen? ⟨w.heap.size + 2, 8, none⟩ = false := (hc1.frozen (p := ⟨w.heap.size + 2, 8, none⟩) (by first | (simp; done) | (simp; omega))).trans (by first | (simp; done) | go_simp)
        have R_f9 : w1.frozen? ⟨w.heap.size + 2, 9, none⟩ = false := (hc1.frozen (p := ⟨w.heap.size + 2, 9, none⟩) (by first | (simp; done) | (simp; omega))).trans (by first | (simp; done) | go_simp)
        have R_f10 : w1.frozen? ⟨w.heap.size + 2, 10, none⟩ = false := (hc1.frozen (p := ⟨w.heap.size + 2, 10, none⟩) (by first | (simp; done) | (simp; omega))).trans (by first | (simp; done) | go_simp)
        have R_l : w.heap.size + 2 < w1.heap.size := Nat.lt_of_lt_of_le (by first | (simp; done) | (simp; omega)) hc1.size
        replace hS := hS.later hst1
        clear hst1
        clear hc1 hb0
        go_wp2_with fail
        with_reducible refine (H_hval.out _).mono ?_
        rintro e w2 ⟨rfl, hc2⟩
        have hb2 : Below w.heap.size w w2 := bchain (by repeat' (first | with_reducible exact hb1 | with_reducible refine Below.drew ?_ | with_reducible refine below_drewN ?_ _ | with_reducible refine Below.alloc ?_ (by have := hb1.size; first | (simp; done) | (simp; omega) | omega) _ | with_reducible refine Below.setCell ?_ (by first | (simp; done) | (simp; omega) | omega) _)) hc2
        have hst2 : Below w1.heap.size w1 w2 := bchain (by repeat' (first | with_reducible exact Below.refl _ _ | with_reducible refine Below.drew ?_ | with_reducible refine below_drewN ?_ _ | with_reducible refine Below.alloc ?_ (by first | (simp; done) | (simp; omega) | omega) _ | with_reducible refine Below.setCell ?_ (by first | (simp; done) | (simp; omega) | omega) _)) hc2
        replace X_0 := cell_later hst2 X_0
        replace X_1 := cell_later hst2 X_1
        replace X_2 := cell_later hst2 X_2
        replace X_3 := cell_later hst2 X_3
        replace X_4 := cell_later hst2 X_4
        replace X_5 := cell_later hst2 X_5
        replace X_6 := cell_later hst2 X_6
        replace X_7 := cell_later hst2 X_7
        replace X_8 := cell_later hst2 X_8
        replace X_9 := cell_later hst2 X_9
        replace X_10 := cell_later hst2 X_10
        replace X_f0 := frozen_later hst2 X_l X_f0
        replace X_f1 := frozen_later hst2 X_l X_f1
        replace X_f2 := frozen_later hst2 X_l X_f2
        replace X_f3 := frozen_later hst2 X_l X_f3
        replace X_f4 := frozen_later hst2 X_l X_f4
        replace X_f5 := frozen_later hst2 X_l X_f5
        replace X_f6 := frozen_later hst2 X_l X_f6
        replace X_f7 := frozen_later hst2 X_l X_f7
        replace X_f8 := frozen_later hst2 X_l X_f8
        replace X_f9 := frozen_later hst2 X_l X_f9
        replace X_f10 := frozen_later hst2 X_l X_f10
        replace X_l := Nat.lt_of_lt_of_le X_l hst2.size
        replace P_0 := cell_later hst2 P_0
        replace P_1 := cell_later hst2 P_1
        replace P_l := Nat.lt_of_lt_of_le P_l hst2.size
        replace R_0 := cell_later hst2 R_0
        replace R_1 := cell_later hst2 R_1
        replace R_2 := cell_later hst2 R_2
        replace R_3 := cell_later hst2 R_3
        replace R_4 := cell_later hst2 R_4
        replace R_5 := cell_later hst2 R_5
        replace R_6 := cell_later hst2 R_6
        replace R_7 := cell_later hst2 R_7
        replace R_8 := cell_later hst2 R_8
        replace R_9 := cell_later hst2 R_9
        replace R_10 := cell_later hst2 R_10
        replace R_f0 := frozen_later hst2 R_l R_f0
        replace R_f1 := frozen_later hst2 R_l R_f1
        replace R_f2 := frozen_later hst2 R_l R_f2
        replace R_f3 := frozen_later hst2 R_l R_f3
        replace R_f4 := frozen_later hst2 R_l R_f4
        replace R_f5 := frozen_later hst2 R_l R_f5
        replace R_f6 := frozen_later hst2 R_l R_f6
        replace R_f7 := frozen_later hst2 R_l R_f7
        replace R_f8 := frozen_later hst2 R_l R_f8
        replace R_f9 := frozen_later hst2 R_l R_f9
        replace R_f10 := frozen_later hst2 R_l R_f10
        replace R_l := Nat.lt_of_lt_of_le R_l hst2.size
        replace hS := hS.later hst2
        clear hst2
        clear hc2 hb1
        go_wp2_with fail
        refine bodyPost_ret (v := .tuple #[.agg #[.int .i64 0, .int .i64 0, .int .i64 0, .int .i64 0, .int .i64 0, .int .i64 0, .int .i64 0, .int .i64 0, .int .i64 0, .int .u32 0, .slice none 0 0], .int .i64 8]) (by simp [results, Tryd.results21, go_sem, *]) rfl ⟨RetS.of (r := zOut 8) ⟨none, 0, rfl, .inl rfl⟩ H_hr2.out, (by repeat' (first | with_reducible exact hb2 | with_reducible refine Below.drew ?_ | with_reducible refine below_drewN ?_ _ | with_reducible refine Below.alloc ?_ (by have := hb2.size; first | (simp; done) | (simp; omega) | omega) _ | with_reducible refine Below.setCell ?_ (by first | (simp; done) | (simp; omega) | omega) _))⟩
    | true =>
      rw [hb] at hval
      cases hh : hasN ps n with
      | true =>
        have hr2 : zOut 14 = R := by rw [← hR]; unfold withR; rw [if_pos rfl, hb, hh]; rfl
        rw [hh] at hnm
        rcases hw with ⟨he, hw⟩ | ⟨he, hw⟩
        · subst he
          have H_hR := Box.mk hR
          have H_hE := Box.mk hE
          have H_hr2 := Box.mk hr2
          have H_hwho := Box.mk hwho
          have H_hval := Box.mk hval
          have H_hnm := Box.mk hnm
          have H_hev := Box.mk hev
          have H_hcv := Box.mk hcv
          have H_hinc := Box.mk hinc
          have H_hw := Box.mk hw
          have H_hb := Box.mk hb
          have H_hh := Box.mk hh
          clear hR hE hr2 hwho hval hnm hev hcv hinc hw hb hh
          go_enter Tryd.func21, Tryd.ntmps21
          have hb0 := Below.refl w.heap.size w
          go_wp2_with fail
          with_reducible refine (H_hwho.out _ (((hS.alloc _).alloc _).alloc _)).mono ?_
          rintro e w1 ⟨rfl, hc1⟩
          have hb1 : Below w.heap.size w w1 := bchain (by repeat' (first | with_reducible exact hb0 | with_reducible refine Below.drew ?_ | with_reducible refine below_drewN ?_ _ | with_reducible refine Below.alloc ?_ (by have := hb0.size; first | (simp; done) | (simp; omega) | omega) _ | with_reducible refine Below.setCell ?_ (by first | (simp; done) | (simp; omega) | omega) _)) hc1
          have hst1 : Below w.heap.size w w1 := bchain (by repeat' (first | with_reducible exact Below.refl _ _ | with_reducible refine Below.drew ?_ | with_reducible refine below_drewN ?_ _ | with_reducible refine Below.alloc ?_ (by first | (simp; done) | (simp; omega) | omega) _ | with_reducible refine Below.setCell ?_ (by first | (simp; done) | (simp; omega) | omega) _)) hc1
          have X_0 : w1.cell? ⟨w.heap.size, 0, none⟩ = some (.int .i64 l0) := (hc1.cell (p := ⟨w.heap.size, 0, none⟩) (by first | (simp; done) | (simp; omega))).trans (by first | (simp; done) | go_simp)
          have X_1 : w1.cell? ⟨w.heap.size, 1, none⟩ = some (.int .i64 l1) := (hc1.cell (p := ⟨w.heap.size, 1, none⟩) (by first | (simp; done) | (simp; omega))).trans (by first | (simp; done) | go_simp)
          have X_2 : w1.cell? ⟨w.heap.size, 2, none⟩ = some (.int .i64 l2) := (hc1.cell (p := ⟨w.heap.size, 2, none⟩) (by first | (simp; done) | (simp; omega))).trans (by first | (simp; done) | go_simp)
          have X_3 : w1.cell? ⟨w.heap.size, 3, none⟩ = some (.int .i64 l3) := (hc1.cell (p := ⟨w.heap.size, 3, none⟩) (by first | (simp; done) | (simp; omega))).trans (by first | (simp; done) | go_simp)
          have X_4 : w1.cell? ⟨w.heap.size, 4, none⟩ = some (.int .i64 l4) := (hc1.cell (p := ⟨w.heap.size, 4, none⟩) (by first | (simp; done) | (simp; omega))).trans (by first | (simp; done) | go_simp)
          have X_5 : w1.cell? ⟨w.heap.size, 5, none⟩ = some (.int .i64 l5) := (hc1.cell (p := ⟨w.heap.size, 5, none⟩) (by first | (simp; done) | (simp; omega))).trans (by first | (simp; done) | go_simp)
          have X_6 : w1.cell? ⟨w.heap.size, 6, none⟩ = some (.int .i64 l6) := (hc1.cell (p := ⟨w.heap.size, 6, none⟩) (by first | (simp; done) | (simp; omega))).trans (by first | (simp; done) | go_simp)
          have X_7 : w1.cell? ⟨w.heap.size, 7, none⟩ = some (.int .i64 l7) := (hc1.cell (p := ⟨w.heap.size, 7, none⟩) (by first | (simp; done) | (simp; omega))).trans (by first | (simp; done) | go_simp)
          have X_8 : w1.cell? ⟨w.heap.size, 8, none⟩ = some (.int .i64 l8) := (hc1.cell (p := ⟨w.heap.size, 8, none⟩) (by first | (simp; done) | (simp; omega))).trans (by first | (simp; done) | go_simp)
          have X_9 : w1.cell? ⟨w.heap.size, 9, none⟩ = some (.int .u32 s) := (hc1.cell (p := ⟨w.heap.size, 9, none⟩) (by first | (simp; done) | (simp; omega))).trans (by first | (simp; done) | go_simp)
          have X_10 : w1.cell? ⟨w.heap.size, 10, none⟩ = some (.slice a ps.length c) := (hc1.cell (p := ⟨w.heap.size, 10, none⟩) (by first | (simp; done) | (simp; omega))).trans (by first | (simp; done) | go_simp)
          have X_f0 : w1.frozen? ⟨w.heap.size, 0, none⟩ = false := (hc1.frozen (p := ⟨w.heap.size, 0, none⟩) (by first | (simp; done) | (simp; omega))).trans (by first | (simp; done) | go_simp)
          have X_f1 : w1.frozen? ⟨w.heap.size, 1, none⟩ = false := (hc1.frozen (p := ⟨w.heap.size, 1, none⟩) (by first | (simp; done) | (simp; omega))).trans (by first | (simp; done) | go_simp)
          have X_f2 : w1.frozen? ⟨w.heap.size, 2, none⟩ = false := (hc1.frozen (p := ⟨w.heap.size, 2, none⟩) (by first | (simp; done) | (simp; omega))).trans (by first | (simp; done) | go_simp)
          have X_f3 : w1.frozen? ⟨w.heap.size, 3, none⟩ = false := (hc1.frozen (p := ⟨w.heap.size, 3, none⟩) (by first | (simp; done) | (simp; omega))).trans (by first | (simp; done) | go_simp)
          have X_f4 : w1.frozen? ⟨w.heap.size, 4, none⟩ = false := (hc1.frozen (p := ⟨w.heap.size, 4, none⟩) (by first | (simp; done) | (simp; omega))).trans (by first | (simp; done) | go_simp)
          have X_f5 : w1.frozen? ⟨w.heap.size, 5, none⟩ = false := (hc1.frozen (p := ⟨w.heap.size, 5, none⟩) (by first | (simp; done) | (simp; omega))).trans (by first | (simp; done) | go_simp)
          have X_f6 : w1.frozen? ⟨w.heap.size, 6, none⟩ = false := (hc1.frozen (p := ⟨w.heap.size, 6, none⟩) (by first | (simp; done) | (simp; omega))).trans (by first | (simp; done) | go_simp)
          have X_f7 : w1.frozen? ⟨w.heap.size, 7, none⟩ = false := (hc1.frozen (p := ⟨w.heap.size, 7, none⟩) (by first | (simp; done) | (simp; omega))).trans (by first | (simp; done) | go_simp)
          have X_f8 : w1.frozen? ⟨w.heap.size, 8, none⟩ = false := (hc1.frozen (p := ⟨w.heap.size, 8, none⟩) (by first | (simp; done) | (simp; omega))).trans (by first | (simp; done) | go_simp)
          have X_f9 : w1.frozen? ⟨w.heap.size, 9, none⟩ = false := (hc1.frozen (p := ⟨w.heap.size, 9, none⟩) (by first | (simp; done) | (simp; omega))).trans (by first | (simp; done) | go_simp)
          have X_f10 : w1.frozen? ⟨w.heap.size, 10, none⟩ = false := (hc1.frozen (p := ⟨w.heap.size, 10, none⟩) (by first | (simp; done) | (simp; omega))).trans (by first | (simp; done) | go_simp)
          have X_l : w.heap.size < w1.heap.size := Nat.lt_of_lt_of_le (by first | (simp; done) | (simp; omega)) hc1.size
          have P_0 : w1.cell? ⟨w.heap.size + 1, 0, none⟩ = some (.string n) := (hc1.cell (p := ⟨w.heap.size + 1, 0, none⟩) (by first | (simp; done) | (simp; omega))).trans (by first | (simp; done) | go_simp)
          have P_1 : w1.cell? ⟨w.heap.size + 1, 1, none⟩ = some (.int .u32 q) := (hc1.cell (p := ⟨w.heap.size + 1, 1, none⟩) (by first | (simp; done) | (simp; omega))).trans (by first | (simp; done) | go_simp)
          have P_l : w.heap.size + 1 < w1.heap.size := Nat.lt_of_lt_of_le (by first | (simp; done) | (simp; omega)) hc1.size
          have R_0 : w1.cell? ⟨w.heap.size + 2, 0, none⟩ = some (.int .i64 0) := (hc1.cell (p := ⟨w.heap.size + 2, 0, none⟩) (by first | (simp; done) | (simp; omega))).trans (by first | (simp; done) | go_simp)
          have R_1 : w1.cell? ⟨w.heap.size + 2, 1, none⟩ = some (.int .i64 0) := (hc1.cell (p := ⟨w.heap.size + 2, 1, none⟩) (by first | (simp; done) | (simp; omega))).trans (by first | (simp; done) | go_simp)
          have R_2 : w1.cell? ⟨w.heap.size + 2, 2, none⟩ = some (.int .i64 0) := (hc1.cell (p := ⟨w.heap.size + 2, 2, none⟩) (by first | (simp; done) | (simp; omega))).trans (by first | (simp; done) | go_simp)
          have R_3 : w1.cell? ⟨w.heap.size + 2, 3, none⟩ = some (.int .i64 0) := (hc1.cell (p := ⟨w.heap.size + 2, 3, none⟩) (by first | (simp; done) | (simp; omega))).trans (by first | (simp; done) | go_simp)
          have R_4 : w1.cell? ⟨w.heap.size + 2, 4, none⟩ = some (.int .i64 0) := (hc1.cell (p := ⟨w.heap.size + 2, 4, none⟩) (by first | (simp; done) | (simp; omega))).trans (by first | (simp; done) | go_simp)
          have R_5 : w1.cell? ⟨w.heap.size + 2, 5, none⟩ = some (.int .i64 0) := (hc1.cell (p := ⟨w.heap.size + 2, 5, none⟩) (by first | (simp; done) | (simp; omega))).trans (by first | (simp; done) | go_simp)
          have R_6 : w1.cell? ⟨w.heap.size + 2, 6, none⟩ = some (.int .i64 0) := (hc1.cell (p := ⟨w.heap.size + 2, 6, none⟩) (by first | (simp; done) | (simp; omega))).trans (by first | (simp; done) | go_simp)
          have R_7 : w1.cell? ⟨w.heap.size + 2, 7, none⟩ = some (.int .i64 0) := (hc1.cell (p := ⟨w.heap.size + 2, 7, none⟩) (by first | (simp; done) | (simp; omega))).trans (by first | (simp; done) | go_simp)
          have R_8 : w1.cell? ⟨w.heap.size + 2, 8, none⟩ = some (.int .i64 0) := (hc1.cell (p := ⟨w.heap.size + 2, 8, none⟩) (by first | (simp; done) | (simp; omega))).trans (by first | (simp; done) | go_simp)
          have R_9 : w1.cell? ⟨w.heap.size + 2, 9, none⟩ = some (.int .u32 0) := (hc1.cell (p := ⟨w.heap.size + 2, 9, none⟩) (by first | (simp; done) | (simp; omega))).trans (by first | (simp; done) | go_simp)
          have R_10 : w1.cell? ⟨w.heap.size + 2, 10, none⟩ = some (.slice none 0 0) := (hc1.cell (p := ⟨w.heap.size + 2, 10, none⟩) (by first | (simp; done) | (simp; omega))).trans (by first | (simp; done) | go_simp)
          have R_f0 : w1.frozen? ⟨w.heap.size + 2, 0, none⟩ = false := (hc1.frozen (p := ⟨w.heap.size + 2, 0, none⟩) (by first | (simp; done) | (simp; omega))).trans (by first | (simp; done) | go_simp)
          have R_f1 : w1.frozen? ⟨w.heap.size + 2, 1, none⟩ = false := (hc1.frozen (p := ⟨w.heap.size + 2, 1, none⟩) (by first | (simp; done) | (simp; omega))).trans (by first | (simp; done) | go_simp)
          have R_f2 : w1.frozen? ⟨w.heap.size + 2, 2, none⟩ = false := (hc1.frozen (p := ⟨w.heap.size + 2, 2, none⟩) (by first | (simp; done) | (simp; omega))).trans (by first | (simp; done) | go_simp)
          have R_f3 : w1.frozen? ⟨w.heap.size + 2, 3, none⟩ = false := (hc1.frozen (p := ⟨w.heap.size + 2, 3, none⟩) (by first | (simp; done) | (simp; omega))).trans (by first | (simp; done) | go_simp)
          have R_f4 : w1.frozen? ⟨w.heap.size + 2, 4, none⟩ = false := (hc1.frozen (p := ⟨w.heap.size + 2, 4, none⟩) (by first | (simp; done) | (simp; omega))).trans (by first | (simp; done) | go_simp)
          have R_f5 : w1.frozen? ⟨w.heap.size + 2, 5, none⟩ = false := (hc1.frozen (p := ⟨w.heap.size + 2, 5, none⟩) (by first | (simp; done) | (simp; omega))).trans (by first | (simp; done) | go_simp)
          have R_f6 : w1.frozen? ⟨w.heap.size + 2, 6, none⟩ = false := (hc1.frozen (p := ⟨w.heap.size + 2, 6, none⟩) (by first | (simp; done) | (simp; omega))).trans (by first | (simp; done) | go_simp)
          have R_f7 : w1.frozen? ⟨w.heap.size + 2, 7, none⟩ = false := (hc1.frozen (p := ⟨w.heap.size + 2, 7, none⟩) (by first | (simp; done) | (simp; omega))).trans (by first | (simp; done) | go_simp)
          have R_f8 : w1.frozen? ⟨w.heap.size + 2, 8, none⟩ = false := (hc1.frozen (p := ⟨w.heap.size + 2, 8, none⟩) (by first | (simp; done) | (simp; omega))).trans (by first | (simp; done) | go_simp)
          have R_f9 : w1.frozen? ⟨w.heap.size + 2, 9, none⟩ = false := (hc1.frozen (p := ⟨w.heap.size + 2, 9, none⟩) (by first | (simp; done) | (simp; omega))).trans (by first | (simp; done) | go_simp)
          have R_f10 : w1.frozen? ⟨w.heap.size + 2, 10, none⟩ = false := (hc1.frozen (p := ⟨w.heap.size + 2, 10, none⟩) (by first | (simp; done) | (simp; omega))).trans (by first | (simp; done) | go_simp)
          have R_l : w.heap.size + 2 < w1.heap.size := Nat.lt_of_lt_of_le (by first | (simp; done) | (simp; omega)) hc1.size
          replace hS := hS.later hst1
          clear hst1
          clear hc1 hb0
          go_wp2_with fail
          with_reducible refine (H_hval.out _).mono ?_
          rintro e w2 ⟨rfl, hc2⟩
          have hb2 : Below w.heap.size w w2 := bchain (by repeat' (first | with_reducible exact hb1 | with_reducible refine Below.drew ?_ | with_reducible refine below_drewN ?_ _ | with_reducible refine Below.alloc ?_ (by have := hb1.size; first | (simp; done) | (simp; omega) | omega) _ | with_reducible refine Below.setCell ?_ (by first | (simp; done) | (simp; omega) | omega) _)) hc2
          have hst2 : Below w1.heap.size w1 w2 := bchain (by repeat' (first | with_reducible exact Below.refl _ _ | with_reducible refine Below.drew ?_ | with_reducible refine below_drewN ?_ _ | with_reducible refine Below.alloc ?_ (by first | (simp; done) | (simp; omega) | omega) _ | with_reducible refine Below.setCell ?_ (by first | (simp; done) | (simp; omega) | omega) _)) hc2
          replace X_0 := cell_later hst2 X_0
          replace X_1 := cell_later hst2 X_1
          replace X_2 := cell_later hst2 X_2
          replace X_3 := cell_later hst2 X_3
          replace X_4 := cell_later hst2 X_4
          replace X_5 := cell_later hst2 X_5
          replace X_6 := cell_later hst2 X_6
          replace X_7 := cell_later hst2 X_7
          replace X_8 := cell_later hst2 X_8
          replace X_9 := cell_later hst2 X_9
          replace X_10 := cell_later hst2 X_10
          replace X_f0 := frozen_later hst2 X_l X_f0
          replace X_f1 := frozen_later hst2 X_l X_f1
          replace X_f2 := frozen_later hst2 X_l X_f2
          replace X_f3 := frozen_later hst2 X_l X_f3
          replace X_f4 := frozen_later hst2 X_l X_f4
          replace X_f5 := frozen_later hst2 X_l X_f5
          replace X_f6 := frozen_later hst2 X_l X_f6
          replace X_f7 := frozen_later hst2 X_l X_f7
          replace X_f8 := frozen_later hst2 X_l X_f8
          replace X_f9 := frozen_later hst2 X_l X_f9
          replace X_f10 := frozen_later hst2 X_l X_f10
          replace X_l := Nat.lt_of_lt_of_le X_l hst2.size
          replace P_0 := cell_later hst2 P_0
          replace P_1 := cell_later hst2 P_1
          replace P_l := Nat.lt_of_lt_of_le P_l hst2.size
          replace R_0 := cell_later hst2 R_0
          replace R_1 := cell_later hst2 R_1
          replace R_2 := cell_later hst2 R_2
          replace R_3 := cell_later hst2 R_3
          replace R_4 := cell_later hst2 R_4
          replace R_5 := cell_later hst2 R_5
          replace R_6 := cell_later hst2 R_6
          replace R_7 := cell_later hst2 R_7
          replace R_8 := cell_later hst2 R_8
          replace R_9 := cell_later hst2 R_9
          replace R_10 := cell_later hst2 R_10
          replace R_f0 := frozen_later hst2 R_l R_f0
          replace R_f1 := frozen_later hst2 R_l R_f1
          replace R_f2 := frozen_later hst2 R_l R_f2
          replace R_f3 := frozen_later hst2 R_l R_f3
          replace R_f4 := frozen_later hst2 R_l R_f4
          replace R_f5 := frozen_later hst2 R_l R_f5
          replace R_f6 := frozen_later hst2 R_l R_f6
          replace R_f7 := frozen_later hst2 R_l R_f7
          replace R_f8 := frozen_later hst2 R_l R_f8
          replace R_f9 := frozen_later hst2 R_l R_f9
          replace R_f10 := frozen_later hst2 R_l R_f10
          replace R_l := Nat.lt_of_lt_of_le R_l hst2.size
          replace hS := hS.later hst2
          clear hst2
          clear hc2 hb1
          go_wp2_with fail
          with_reducible refine (H_hnm.out _ hS).mono ?_
          rintro e w3 ⟨rfl, hc3⟩
          have hb3 : Below w.heap.size w w3 := bchain (by repeat' (first | with_reducible exact hb2 | with_reducible refine Below.drew ?_ | with_reducible refine below_drewN ?_ _ | with_reducible refine Below.alloc ?_ (by have := hb2.size; first | (simp; done) | (simp; omega) | omega) _ | with_reducible refine Below.setCell ?_ (by first | (simp; done) | (simp; omega) | omega) _)) hc3
          have hst3 : Below w2.heap.size w2 w3 := bchain (by repeat' (first | with_reducible exact Below.refl _ _ | with_reducible refine Below.drew ?_ | with_reducible refine below_drewN ?_ _ | with_reducible refine Below.alloc ?_ (by first | (simp; done) | (simp; omega) | omega) _ | with_reducible refine Below.setCell ?_ (by first | (simp; done) | (simp; omega) | omega) _)) hc3
          replace X_0 := cell_later hst3 X_0
          replace X_1 := cell_later hst3 X_1
          replace X_2 := cell_later hst3 X_2
          replace X_3 := cell_later hst3 X_3
          replace X_4 := cell_later hst3 X_4
          replace X_5 := cell_later hst3 X_5
          replace X_6 := cell_later hst3 X_6
          replace X_7 := cell_later hst3 X_7
          replace X_8 := cell_later hst3 X_8
          replace X_9 := cell_later hst3 X_9
          replace X_10 := cell_later hst3 X_10
          replace X_f0 := frozen_later hst3 X_l X_f0
          replace X_f1 := frozen_later hst3 X_l X_f1
          replace X_f2 := frozen_later hst3 X_l X_f2
          replace X_f3 := frozen_later hst3 X_l X_f3
          replace X_f4 := frozen_later hst3 X_l X_f4
          replace X_f5 := frozen_later hst3 X_l X_f5
          replace X_f6 := frozen_later hst3 X_l X_f6
          replace X_f7 := frozen_later hst3 X_l X_f7
          replace X_f8 := frozen_later hst3 X_l X_f8
          replace X_f9 := frozen_later hst3 X_l X_f9
          replace X_f10 := frozen_later hst3 X_l X_f10
          replace X_l := Nat.lt_of_lt_of_le X_l hst3.size
          replace P_0 := cell_later hst3 P_0
          replace P_1 := cell_later hst3 P_1
          replace P_l := Nat.lt_of_lt_of_le P_l hst3.size
          replace R_0 := cell_later hst3 R_0
          replace R_1 := cell_later hst3 R_1
          replace R_2 := cell_later hst3 R_2
          replace R_3 := cell_later hst3 R_3
          replace R_4 := cell_later hst3 R_4
          replace R_5 := cell_later hst3 R_5
          replace R_6 := cell_later hst3 R_6
          replace R_7 := cell_later hst3 R_7
          replace R_8 := cell_later hst3 R_8
          replace R_9 := cell_later hst3 R_9
          replace R_10 := cell_later hst3 R_10
          replace R_f0 := frozen_later hst3 R_l R_f0
          replace R_f1 := frozen_later hst3 R_l R_f1
          replace R_f2 := frozen_later hst3 R_l R_f2
          replace R_f3 := frozen_later hst3 R_l R_f3
          replace R_f4 := frozen_later hst3 R_l R_f4
          replace R_f5 := frozen_later hst3 R_l R_f5
          replace R_f6 := frozen_later hst3 R_l R_f6
          replace R_f7 := frozen_later hst3 R_l R_f7
          replace R_f8 := frozen_later hst3 R_l R_f8
          replace R_f9 := frozen_later hst3 R_l R_f9
          replace R_f10 := frozen_later hst3 R_l R_f10
          replace R_l := Nat.lt_of_lt_of_le R_l hst3.size
          replace hS := hS.later hst3
          clear hst3
          clear hc3 hb2
          go_wp2_with fail
          refine bodyPost_ret (v := .tuple #[.agg #[.int .i64 0, .int .i64 0, .int .i64 0, .int .i64 0, .int .i64 0, .int .i64 0, .int .i64 0, .int .i64 0, .int .i64 0, .int .u32 0, .slice none 0 0], .int .i64 14]) (by simp [results, Tryd.results21, go_sem, *]) rfl ⟨RetS.of (r := zOut 14) ⟨none, 0, rfl, .inl rfl⟩ H_hr2.out, (by repeat' (first | with_reducible exact hb3 | with_reducible refine Below.drew ?_ | with_reducible refine below_drewN ?_ _ | with_reducible refine Below.alloc ?_ (by have := hb3.size; first | (simp; done) | (simp; omega) | omega) _ | with_reducible refine Below.setCell ?_ (by first | (simp; done) | (simp; omega) | omega) _))⟩
        · subst he
          have H_hR := Box.mk hR
          have H_hE := Box.mk hE
          have H_hr2 := Box.mk hr2
          have H_hwho := Box.mk hwho
          have H_hval := Box.mk hval
          have H_hnm := Box.mk hnm
          have H_hev := Box.mk hev
          have H_hcv := Box.mk hcv
          have H_hinc := Box.mk hinc
          have H_hw := Box.mk hw
          have H_hb := Box.mk hb
          have H_hh := Box.mk hh
          clear hR hE hr2 hwho hval hnm hev hcv hinc hw hb hh
          go_enter Tryd.func21, Tryd.ntmps21
          have hb0 := Below.refl w.heap.size w
          go_wp2_with fail
          with_reducible refine (H_hwho.out _ (((hS.alloc _).alloc _).alloc _)).mono ?_
          rintro e w1 ⟨rfl, hc1⟩
          have hb1 : Below w.heap.size w w1 := bchain (by repeat' (first | with_reducible exact hb0 | with_reducible refine Below.drew ?_ | with_reducible refine below_drewN ?_ _ | with_reducible refine Below.alloc ?_ (by have := hb0.size; first | (simp; done) | (simp; omega) | omega) _ | with_reducible refine Below.setCell ?_ (by first | (simp; done) | (simp; omega) | omega) _)) hc1
          have hst1 : Below w.heap.size w w1 := bchain (by repeat' (first | with_reducible exact Below.refl _ _ | with_reducible refine Below.drew ?_ | with_reducible refine below_drewN ?_ _ | with_reducible refine Below.alloc ?_ (by first | (simp; done) | (simp; omega) | omega) _ | with_reducible refine Below.setCell ?_ (by first | (simp; done) | (simp; omega) | omega) _)) hc1
          have X_0 : w1.cell? ⟨w.heap.size, 0, none⟩ = some (.int .i64 l0) := (hc1.cell (p := ⟨w.heap.size, 0, none⟩) (by first | (simp; done) | (simp; omega))).trans (by first | (simp; done) | go_simp)
          have X_1 : w1.cell? ⟨w.heap.size, 1, none⟩ = some (.int .i64 l1) := (hc1.cell (p := ⟨w.heap.size, 1, none⟩) (by first | (simp; done) | (simp; omega))).trans (by first | (simp; done) | go_simp)
          have X_2 : w1.cell? ⟨w.heap.size, 2, none⟩ = some (.int .i64 l2) := (hc1.cell (p := ⟨w.heap.size, 2, none⟩) (by first | (simp; done) | (simp; omega))).trans (by first | (simp; done) | go_simp)
          have X_3 : w1.cell? ⟨w.heap.size, 3, none⟩ = some (.int .i64 l3) := (hc1.cell (p := ⟨w.heap.size, 3, none⟩) (by first | (simp; done) | (simp; omega))).trans (by first | (simp; done) | go_simp)
          have X_4 : w1.cell? ⟨w.heap.size, 4, none⟩ = some (.int .i64 l4) := (hc1.cell (p := ⟨w.heap.size, 4, none⟩) (by first | (simp; done) | (simp; omega))).trans (by first | (simp; done) | go_simp)
          have X_5 : w1.cell? ⟨w.heap.size, 5, none⟩ = some (.int .i64 l5) := (hc1.cell (p := ⟨w.heap.size, 5, none⟩) (by first | (simp; done) | (simp; omega))).trans (by first | (simp; done) | go_simp)
          have X_6 : w1.cell? ⟨w.heap.size, 6, none⟩ = some (.int .i64 l6) := (hc1.cell (p := ⟨w.heap.size, 6, none⟩) (by first | (simp; done) | (simp; omega))).trans (by first | (simp; done) | go_simp)
          have X_7 : w1.cell? ⟨w.heap.size, 7, none⟩ = some (.int .i64 l7) := (hc1.cell (p := ⟨w.heap.size, 7, none⟩) (by first | (simp; done) | (simp; omega))).trans (by first | (simp; done) | go_simp)
          have X_8 : w1.cell? ⟨w.heap.size, 8, none⟩ = some (.int .i64 l8) := (hc1.cell (p := ⟨w.heap.size, 8, none⟩) (by first | (simp; done) | (simp; omega))).trans (by first | (simp; done) | go_simp)
          have X_9 : w1.cell? ⟨w.heap.size, 9, none⟩ = some (.int .u32 s) := (hc1.cell (p := ⟨w.heap.size, 9, none⟩) (by first | (simp; done) | (simp; omega))).trans (by first | (simp; done) | go_simp)
          have X_10 : w1.cell? ⟨w.heap.size, 10, none⟩ = some (.slice a ps.length c) := (hc1.cell (p := ⟨w.heap.size, 10, none⟩) (by first | (simp; done) | (simp; omega))).trans (by first | (simp; done) | go_simp)
          have X_f0 : w1.frozen? ⟨w.heap.size, 0, none⟩ = false := (hc1.frozen (p := ⟨w.heap.size, 0, none⟩) (by first | (simp; done) | (simp; omega))).trans (by first | (simp; done) | go_simp)
          have X_f1 : w1.frozen? ⟨w.heap.size, 1, none⟩ = false := (hc1.frozen (p := ⟨w.heap.size, 1, none⟩) (by first | (simp; done) | (simp; omega))).trans (by first | (simp; done) | go_simp)
          have X_f2 : w1.frozen? ⟨w.heap.size, 2, none⟩ = false := (hc1.frozen (p := ⟨w.heap.size, 2, none⟩) (by first | (simp; done) | (simp; omega))).trans (by first | (simp; done) | go_simp)
          have X_f3 : w1.frozen? ⟨w.heap.size, 3, none⟩ = false := (hc1.frozen (p := ⟨w.heap.size, 3, none⟩) (by first | (simp; done) | (simp; omega))).trans (by first | (simp; done) | go_simp)
          have X_f4 : w1.frozen? ⟨w.heap.size, 4, none⟩ = false := (hc1.frozen (p := ⟨w.heap.size, 4, none⟩) (by first | (simp; done) | (simp; omega))).trans (by first | (simp; done) | go_simp)
          have X_f5 : w1.frozen? ⟨w.heap.size, 5, none⟩ = false := (hc1.frozen (p := ⟨w.heap.size, 5, none⟩) (by first | (simp; done) | (simp; omega))).trans (by first | (simp; done) | go_simp)
          have X_f6 : w1.frozen? ⟨w.heap.size, 6, none⟩ = false := (hc1.frozen (p := ⟨w.heap.size, 6, none⟩) (by first | (simp; done) | (simp; omega))).trans (by first | (simp; done) | go_simp)
          have X_f7 : w1.frozen? ⟨w.heap.size, 7, none⟩ = false := (hc1.frozen (p := ⟨w.heap.size, 7, none⟩) (by first | (simp; done) | (simp; omega))).trans (by first | (simp; done) | go_simp)
          have X_f8 : w1.frozen? ⟨w.heap.size, 8, none⟩ = false := (hc1.frozen (p := ⟨w.heap.size, 8, none⟩) (by first | (simp; done) | (simp; omega))).trans (by first | (simp; done) | go_simp)
          have X_f9 : w1.frozen? ⟨w.heap.size, 9, none⟩ = false := (hc1.frozen (p := ⟨w.heap.size, 9, none⟩) (by first | (simp; done) | (simp; omega))).trans (by first | (simp; done) | go_simp)
          have X_f10 : w1.frozen? ⟨w.heap.size, 10, none⟩ = false := (hc1.frozen (p := ⟨w.heap.size, 10, none⟩) (by first | (simp; done) | (simp; omega))).trans (by first | (simp; done) | go_simp)
          have X_l : w.heap.size < w1.heap.size := Nat.lt_of_lt_of_le (by first | (simp; done) | (simp; omega)) hc1.size
          have P_0 : w1.cell? ⟨w.heap.size + 1, 0, none⟩ = some (.string n) := (hc1.cell (p := ⟨w.heap.size + 1, 0, none⟩) (by first | (simp; done) | (simp; omega))).trans (by first | (simp; done) | go_simp)
          have P_1 : w1.cell? ⟨w.heap.size + 1, 1, none⟩ = some (.int .u32 q) := (hc1.cell (p := ⟨w.heap.size + 1, 1, none⟩) (by first | (simp; done) | (simp; omega))).trans (by first | (simp; done) | go_simp)
          have P_l : w.heap.size + 1 < w1.heap.size := Nat.lt_of_lt_of_le (by first | (simp; done) | (simp; omega)) hc1.size
          have R_0 : w1.cell? ⟨w.heap.size + 2, 0, none⟩ = some (.int .i64 0) := (hc1.cell (p := ⟨w.heap.size + 2, 0, none⟩) (by first | (simp; done) | (simp; omega))).trans (by first | (simp; done) | go_simp)
          have R_1 : w1.cell? ⟨w.heap.size + 2, 1, none⟩ = some (.int .i64 0) := (hc1.cell (p := ⟨w.heap.size + 2, 1, none⟩) (by first | (simp; done) | (simp; omega))).trans (by first | (simp; done) | go_simp)
          have R_2 : w1.cell? ⟨w.heap.size + 2, 2, none⟩ = some (.int .i64 0) := (hc1.cell (p := ⟨w.heap.size + 2, 2, none⟩) (by first | (simp; done) | (simp; omega))).trans (by first | (simp; done) | go_simp)
          have R_3 : w1.cell? ⟨w.heap.size + 2, 3, none⟩ = some (.int .i64 0) := (hc1.cell (p := ⟨w.heap.size + 2, 3, none⟩) (by first | (simp; done) | (simp; omega))).trans (by first | (simp; done) | go_simp)
          have R_4 : w1.cell? ⟨w.heap.size + 2, 4, none⟩ = some (.int .i64 0) := (hc1.cell (p := ⟨w.heap.size + 2, 4, none⟩) (by first | (simp; done) | (simp; omega))).trans (by first | (simp; done) | go_simp)
          have R_5 : w1.cell? ⟨w.heap.size + 2, 5, none⟩ = some (.int .i64 0) := (hc1.cell (p := ⟨w.heap.size + 2, 5, none⟩) (by first | (simp; done) | (simp; omega))).trans (by first | (simp; done) | go_simp)
          have R_6 : w1.cell? ⟨w.heap.size + 2, 6, none⟩ = some (.int .i64 0) := (hc1.cell (p := ⟨w.heap.size + 2, 6, none⟩) (by first | (simp; done) | (simp; omega))).trans (by first | (simp; done) | go_simp)
          have R_7 : w1.cell? ⟨w.heap.size + 2, 7, none⟩ = some (.int .i64 0) := (hc1.cell (p := ⟨w.heap.size + 2, 7, none⟩) (by first | (simp; done) | (simp; omega))).trans (by first | (simp; done) | go_simp)
          have R_8 : w1.cell? ⟨w.heap.size + 2, 8, none⟩ = some (.int .i64 0) := (hc1.cell (p := ⟨w.heap.size + 2, 8, none⟩) (by first | (simp; done) | (simp; omega))).trans (by first | (simp; done) | go_simp)
          have R_9 : w1.cell? ⟨w.heap.size + 2, 9, none⟩ = some (.int .u32 0) := (hc1.cell (p := ⟨w.heap.size + 2, 9, none⟩) (by first | (simp; done) | (simp; omega))).trans (by first | (simp; done) | go_simp)
          have R_10 : w1.cell? ⟨w.heap.size + 2, 10, none⟩ = some (.slice none 0 0) := (hc1.cell (p := ⟨w.heap.size + 2, 10, none⟩) (by first | (simp; done) | (simp; omega))).trans (by first | (simp; done) | go_simp)
          have R_f0 : w1.frozen? ⟨w.heap.size + 2, 0, none⟩ = false := (hc1.frozen (p := ⟨w.heap.size + 2, 0, none⟩) (by first | (simp; done) | (simp; omega))).trans (by first | (simp; done) | go_simp)
          have R_f1 : w1.frozen? ⟨w.heap.size + 2, 1, none⟩ = false := (hc1.frozen (p := ⟨w.heap.size + 2, 1, none⟩) (by first | (simp; done) | (simp; omega))).trans (by first | (simp; done) | go_simp)
          have R_f2 : w1.frozen? ⟨w.heap.size + 2, 2, none⟩ = false := (hc1.frozen (p := ⟨w.heap.size + 2, 2, none⟩) (by first | (simp; done) | (simp; omega))).trans (by first | (simp; done) | go_simp)
          have R_f3 : w1.frozen? ⟨w.heap.size + 2, 3, none⟩ = false := (hc1.frozen (p := ⟨w.heap.size + 2, 3, none⟩) (by first | (simp; done) | (simp; omega))).trans (by first | (simp; done) | go_simp)
          have R_f4 : w1.frozen? ⟨w.heap.size + 2, 4, none⟩ = false := (hc1.frozen (p := ⟨w.heap.size + 2, 4, none⟩) (by first | (simp; done) | (simp; omega))).trans (by first | (simp; done) | go_simp)
          have R_f5 : w1.frozen? ⟨w.heap.size + 2, 5, none⟩ = false := (hc1.frozen (p := ⟨w.heap.size + 2, 5, none⟩) (by first | (simp; done) | (simp; omega))).trans (by first | (simp; done) | go_simp)
          have R_f6 : w1.frozen? ⟨w.heap.size + 2, 6, none⟩ = false := (hc1.frozen (p := ⟨w.heap.size + 2, 6, none⟩) (by first | (simp; done) | (simp; omega))).trans (by first | (simp; done) | go_simp)
          have R_f7 : w1.frozen? ⟨w.heap.size + 2, 7, none⟩ = false := (hc1.frozen (p := ⟨w.heap.size + 2, 7, none⟩) (by first | (simp; done) | (simp; omega))).trans (by first | (simp; done) | go_simp)
          have R_f8 : w1.frozen? ⟨w.heap.size + 2, 8, none⟩ = false := (hc1.frozen (p := ⟨w.heap.size + 2, 8, none⟩) (by first | (simp; done) | (simp; omega))).trans (by first | (simp; done) | go_simp)
          have R_f9 : w1.frozen? ⟨w.heap.size + 2, 9, none⟩ = false := (hc1.frozen (p := ⟨w.heap.size + 2, 9, none⟩) (by first | (simp; done) | (simp; omega))).trans (by first | (simp; done) | go_simp)
          have R_f10 : w1.frozen? ⟨w.heap.size + 2, 10, none⟩ = false := (hc1.frozen (p := ⟨w.heap.size + 2, 10, none⟩) (by first | (simp; done) | (simp; omega))).trans (by first | (simp; done) | go_simp)
          have R_l : w.heap.size + 2 < w1.heap.size := Nat.lt_of_lt_of_le (by first | (simp; done) | (simp; omega)) hc1.size
          replace hS := hS.later hst1
          clear hst1
          clear hc1 hb0
          go_wp2_with fail
          with_reducible refine (H_hval.out _).mono ?_
          rintro e w2 ⟨rfl, hc2⟩
          have hb2 : Below w.heap.size w w2 := bchain (by repeat' (first | with_reducible exact hb1 | with_reducible refine Below.drew ?_ | with_reducible refine below_drewN ?_ _ | with_reducible refine Below.alloc ?_ (by have := hb1.size; first | (simp; done) | (simp; omega) | omega) _ | with_reducible refine Below.setCell ?_ (by first | (simp; done) | (simp; omega) | omega) _)) hc2
          have hst2 : Below w1.heap.size w1 w2 := bchain (by repeat' (first | with_reducible exact Below.refl _ _ | with_reducible refine Below.drew ?_ | with_reducible refine below_drewN ?_ _ | with_reducible refine Below.alloc ?_ (by first | (simp; done) | (simp; omega) | omega) _ | with_reducible refine Below.setCell ?_ (by first | (simp; done) | (simp; omega) | omega) _)) hc2
          replace X_0 := cell_later hst2 X_0
          replace X_1 := cell_later hst2 X_1
          replace X_2 := cell_later hst2 X_2
          replace X_3 := cell_later hst2 X_3
          replace X_4 := cell_later hst2 X_4
          replace X_5 := cell_later hst2 X_5
          replace X_6 := cell_later hst2 X_6
          replace X_7 := cell_later hst2 X_7
          replace X_8 := cell_later hst2 X_8
          replace X_9 := cell_later hst2 X_9
          replace X_10 := cell_later hst2 X_10
          replace X_f0 := frozen_later hst2 X_l X_f0
          replace X_f1 := frozen_later hst2 X_l X_f1
          replace X_f2 := frozen_later hst2 X_l X_f2
          replace X_f3 := frozen_later hst2 X_l X_f3
          replace X_f4 := frozen_later hst2 X_l X_f4
          replace X_f5 := frozen_later hst2 X_l X_f5
          replace X_f6 := frozen_later hst2 X_l X_f6
          replace X_f7 := frozen_later hst2 X_l X_f7
          replace X_f8 := frozen_later hst2 X_l X_f8
          replace X_f9 := frozen_later hst2 X_l X_f9
          replace X_f10 := frozen_later hst2 X_l X_f10
          replace X_l := Nat.lt_of_lt_of_le X_l hst2.size
          replace P_0 := cell_later hst2 P_0
          replace P_1 := cell_later hst2 P_1
          replace P_l := Nat.lt_of_lt_of_le P_l hst2.size
          replace R_0 := cell_later hst2 R_0
          replace R_1 := cell_later hst2 R_1
          replace R_2 := cell_later hst2 R_2
          replace R_3 := cell_later hst2 R_3
          replace R_4 := cell_later hst2 R_4
          replace R_5 := cell_later hst2 R_5
          replace R_6 := cell_later hst2 R_6
          replace R_7 := cell_later hst2 R_7
          replace R_8 := cell_later hst2 R_8
          replace R_9 := cell_later hst2 R_9
          replace R_10 := cell_later hst2 R_10
          replace R_f0 := frozen_later hst2 R_l R_f0
          replace R_f1 := frozen_later hst2 R_l R_f1
          replace R_f2 := frozen_later hst2 R_l R_f2
          replace R_f3 := frozen_later hst2 R_l R_f3
          replace R_f4 := frozen_later hst2 R_l R_f4
          replace R_f5 := frozen_later hst2 R_l R_f5
          replace R_f6 := frozen_later hst2 R_l R_f6
          replace R_f7 := frozen_later hst2 R_l R_f7
          replace R_f8 := frozen_later hst2 R_l R_f8
          replace R_f9 := frozen_later hst2 R_l R_f9
          replace R_f10 := frozen_later hst2 R_l R_f10
          replace R_l := Nat.lt_of_lt_of_le R_l hst2.size
          replace hS := hS.later hst2
          clear hst2
          clear hc2 hb1
          go_wp2_with fail
          with_reducible refine (H_hnm.out _ hS).mono ?_
          rintro e w3 ⟨rfl, hc3⟩
          have hb3 : Below w.heap.size w w3 := bchain (by repeat' (first | with_reducible exact hb2 | with_reducible refine Below.drew ?_ | with_reducible refine below_drewN ?_ _ | with_reducible refine Below.alloc ?_ (by have := hb2.size; first | (simp; done) | (simp; omega) | omega) _ | with_reducible refine Below.setCell ?_ (by first | (simp; done) | (simp; omega) | omega) _)) hc3
          have hst3 : Below w2.heap.size w2 w3 := bchain (by repeat' (first | with_reducible exact Below.refl _ _ | with_reducible refine Below.drew ?_ | with_reducible refine below_drewN ?_ _ | with_reducible refine Below.alloc ?_ (by first | (simp; done) | (simp; omega) | omega) _ | with_reducible refine Below.setCell ?_ (by first | (simp; done) | (simp; omega) | omega) _)) hc3
          replace X_0 := cell_later hst3 X_0
          replace X_1 := cell_later hst3 X_1
          replace X_2 := cell_later hst3 X_2
          replace X_3 := cell_later hst3 X_3
          replace X_4 := cell_later hst3 X_4
          replace X_5 := cell_later hst3 X_5
          replace X_6 := cell_later hst3 X_6
          replace X_7 := cell_later hst3 X_7
          replace X_8 := cell_later hst3 X_8
          replace X_9 := cell_later hst3 X_9
          replace X_10 := cell_later hst3 X_10
          replace X_f0 := frozen_later hst3 X_l X_f0
          replace X_f1 := frozen_later hst3 X_l X_f1
          replace X_f2 := frozen_later hst3 X_l X_f2
          replace X_f3 := frozen_later hst3 X_l X_f3
          replace X_f4 := frozen_later hst3 X_l X_f4
          replace X_f5 := frozen_later hst3 X_l X_f5
          replace X_f6 := frozen_later hst3 X_l X_f6
          replace X_f7 := frozen_later hst3 X_l X_f7
          replace X_f8 := frozen_later hst3 X_l X_f8
          replace X_f9 := frozen_later hst3 X_l X_f9
          replace X_f10 := frozen_later hst3 X_l X_f10
          replace X_l := Nat.lt_of_lt_of_le X_l hst3.size
          replace P_0 := cell_later hst3 P_0
          replace P_1 := cell_later hst3 P_1
          replace P_l := Nat.lt_of_lt_of_le P_l hst3.size
          replace R_0 := cell_later hst3 R_0
          replace R_1 := cell_later hst3 R_1
          replace R_2 := cell_later hst3 R_2
          replace R_3 := cell_later hst3 R_3
          replace R_4 := cell_later hst3 R_4
          replace R_5 := cell_later hst3 R_5
          replace R_6 := cell_later hst3 R_6
          replace R_7 := cell_later hst3 R_7
          replace R_8 := cell_later hst3 R_8
          replace R_9 := cell_later hst3 R_9
          replace R_10 := cell_later hst3 R_10
          replace R_f0 := frozen_later hst3 R_l R_f0
          replace R_f1 := frozen_later hst3 R_l R_f1
          replace R_f2 := frozen_later hst3 R_l R_f2
          replace R_f3 := frozen_later hst3 R_l R_f3
          replace R_f4 := frozen_later hst3 R_l R_f4
          replace R_f5 := frozen_later hst3 R_l R_f5
          replace R_f6 := frozen_later hst3 R_l R_f6
          replace R_f7 := frozen_later hst3 R_l R_f7
          replace R_f8 := frozen_later hst3 R_l R_f8
          replace R_f9 := frozen_later hst3 R_l R_f9
          replace R_f10 := frozen_later hst3 R_l R_f10
          replace R_l := Nat.lt_of_lt_of_le R_l hst3.size
          replace hS := hS.later hst3
          clear hst3
          clear hc3 hb2
          go_wp2_with fail
          refine bodyPost_ret (v := .tuple #[.agg #[.int .i64 0, .int .i64 0, .int .i64 0, .int .i64 0, .int .i64 0, .int .i64 0, .int .i64 0, .int .i64 0, .int .i64 0, .int .u32 0, .slice none 0 0], .int .i64 14]) (by simp [results, Tryd.results21, go_sem, *]) rfl ⟨RetS.of (r := zOut 14) ⟨none, 0, rfl, .inl rfl⟩ H_hr2.out, (by repeat' (first | with_reducible exact hb3 | with_reducible refine Below.drew ?_ | with_reducible refine below_drewN ?_ _ | with_reducible refine Below.alloc ?_ (by have := hb3.size; first | (simp; done) | (simp; omega) | omega) _ | with_reducible refine Below.setCell ?_ (by first | (simp; done) | (simp; omega) | omega) _))⟩
      | false =>
        rw [hh] at hnm
        rcases hw with ⟨he, hw⟩ | ⟨he, hw⟩
        · have hr2 : zOut 14 = R := by rw [← hR]; unfold withR; rw [if_pos rfl, hb, hh, if_pos hw]; rfl
          subst he
          have H_hR := Box.mk hR
          have H_hE := Box.mk hE
          have H_hr2 := Box.mk hr2
          have H_hwho := Box.mk hwho
          have H_hval := Box.mk hval
          have H_hnm := Box.mk hnm
          have H_hev := Box.mk hev
          have H_hcv := Box.mk hcv
          have H_hinc := Box.mk hinc
          have H_hw := Box.mk hw
          have H_hb := Box.mk hb
          have H_hh := Box.mk hh
          clear hR hE hr2 hwho hval hnm hev hcv hinc hw hb hh
          go_enter Tryd.func21, Tryd.ntmps21
          have hb0 := Below.refl w.heap.size w
          go_wp2_with fail
          with_reducible refine (H_hwho.out _ (((hS.alloc _).alloc _).alloc _)).mono ?_
          rintro e w1 ⟨rfl, hc1⟩
          have hb1 : Below w.heap.size w w1 := bchain (by repeat' (first | with_reducible exact hb0 | with_reducible refine Below.drew ?_ | with_reducible refine below_drewN ?_ _ | with_reducible refine Below.alloc ?_ (by have := hb0.size; first | (simp; done) | (simp; omega) | omega) _ | with_reducible refine Below.setCell ?_ (by first | (simp; done) | (simp; omega) | omega) _)) hc1
          have hst1 : Below w.heap.size w w1 := bchain (by repeat' (first | with_reducible exact Below.refl _ _ | with_reducible refine Below.drew ?_ | with_reducible refine below_drewN ?_ _ | with_reducible refine Below.alloc ?_ (by first | (simp; done) | (simp; omega) | omega) _ | with_reducible refine Below.setCell ?_ (by first | (simp; done) | (simp; omega) | omega) _)) hc1
          have X_0 : w1.cell? ⟨w.heap.size, 0, none⟩ = some (.int .i64 l0) := (hc1.cell (p := ⟨w.heap.size, 0, none⟩) (by first | (simp; done) | (simp; omega))).trans (by first | (simp; done) | go_simp)
          have X_1 : w1.cell? ⟨w.heap.size, 1, none⟩ = some (.int .i64 l1) := (hc1.cell (p := ⟨w.heap.size, 1, none⟩) (by first | (simp; done) | (simp; omega))).trans (by first | (simp; done) | go_simp)
          have X_2 : w1.cell? ⟨w.heap.size, 2, none⟩ = some (.int .i64 l2) := (hc1.cell (p := ⟨w.heap.size, 2, none⟩) (by first | (simp; done) | (simp; omega))).trans (by first | (simp; done) | go_simp)
          have X_3 : w1.cell? ⟨w.heap.size, 3, none⟩ = some (.int .i64 l3) := (hc1.cell (p := ⟨w.heap.size, 3, none⟩) (by first | (simp; done) | (simp; omega))).trans (by first | (simp; done) | go_simp)
          have X_4 : w1.cell? ⟨w.heap.size, 4, none⟩ = some (.int .i64 l4) := (hc1.cell (p := ⟨w.heap.size, 4, none⟩) (by first | (simp; done) | (simp; omega))).trans (by first | (simp; done) | go_simp)
          have X_5 : w1.cell? ⟨w.heap.size, 5, none⟩ = some (.int .i64 l5) := (hc1.cell (p := ⟨w.heap.size, 5, none⟩) (by first | (simp; done) | (simp; omega))).trans (by first | (simp; done) | go_simp)
          have X_6 : w1.cell? ⟨w.heap.size, 6, none⟩ = some (.int .i64 l6) := (hc1.cell (p := ⟨w.heap.size, 6, none⟩) (by first | (simp; done) | (simp; omega))).trans (by first | (simp; done) | go_simp)
          have X_7 : w1.cell? ⟨w.heap.size, 7, none⟩ = some (.int .i64 l7) := (hc1.cell (p := ⟨w.heap.size, 7, none⟩) (by first | (simp; done) | (simp; omega))).trans (by first | (simp; done) | go_simp)
          have X_8 : w1.cell? ⟨w.heap.size, 8, none⟩ = some (.int .i64 l8) := (hc1.cell (p := ⟨w.heap.size, 8, none⟩) (by first | (simp; done) | (simp; omega))).trans (by first | (simp; done) | go_simp)
          have X_9 : w1.cell? ⟨w.heap.size, 9, none⟩ = some (.int .u32 s) := (hc1.cell (p := ⟨w.heap.size, 9, none⟩) (by first | (simp; done) | (simp; omega))).trans (by first | (simp; done) | go_simp)
          have X_10 : w1.cell? ⟨w.heap.size, 10, none⟩ = some (.slice a ps.length c) := (hc1.cell (p := ⟨w.heap.size, 10, none⟩) (by first | (simp; done) | (simp; omega))).trans (by first | (simp; done) | go_simp)
          have X_f0 : w1.frozen? ⟨w.heap.size, 0, none⟩ = false := (hc1.frozen (p := ⟨w.heap.size, 0, none⟩) (by first | (simp; done) | (simp; omega))).trans (by first | (simp; done) | go_simp)
          have X_f1 : w1.frozen? ⟨w.heap.size, 1, none⟩ = false := (hc1.frozen (p := ⟨w.heap.size, 1, none⟩) (by first | (simp; done) | (simp; omega))).trans (by first | (simp; done) | go_simp)
          have X_f2 : w1.frozen? ⟨w.heap.size, 2, none⟩ = false := (hc1.frozen (p := ⟨w.heap.size, 2, none⟩) (by first | (simp; done) | (simp; omega))).trans (by first | (simp; done) | go_simp)
          have X_f3 : w1.frozen? ⟨w.heap.size, 3, none⟩ = false := (hc1.frozen (p := ⟨w.heap.size, 3, none⟩) (by first | (simp; done) | (simp; omega))).trans (by first | (simp; done) | go_simp)
          have X_f4 : w1.frozen? ⟨w.heap.size, 4, none⟩ = false := (hc1.frozen (p := ⟨w.heap.size, 4, none⟩) (by first | (simp; done) | (simp; omega))).trans (by first | (simp; done) | go_simp)
          have X_f5 : w1.frozen? ⟨w.heap.size, 5, none⟩ = false := (hc1.frozen (p := ⟨w.heap.size, 5, none⟩) (by first | (simp; done) | (simp; omega))).trans (by first | (simp; done) | go_simp)
          have X_f6 : w1.frozen? ⟨w.heap.size, 6, none⟩ = false := (hc1.frozen (p := ⟨w.heap.size, 6, none⟩) (by first | (simp; done) | (simp; omega))).trans (by first | (simp; done) | go_simp)
          have X_f7 : w1.frozen? ⟨w.heap.size, 7, none⟩ = false := (hc1.frozen (p := ⟨w.heap.size, 7, none⟩) (by first | (simp; done) | (simp; omega))).trans (by first | (simp; done) | go_simp)
          have X_f8 : w1.frozen? ⟨w.heap.size, 8, none⟩ = false := (hc1.frozen (p := ⟨w.heap.size, 8, none⟩) (by first | (simp; done) | (simp; omega))).trans (by first | (simp; done) | go_simp)
          have X_f9 : w1.frozen? ⟨w.heap.size, 9, none⟩ = false := (hc1.frozen (p := ⟨w.heap.size, 9, none⟩) (by first | (simp; done) | (simp; omega))).trans (by first | (simp; done) | go_simp)
          have X_f10 : w1.frozen? ⟨w.heap.size, 10, none⟩ = false := (hc1.frozen (p := ⟨w.heap.size, 10, none⟩) (by first | (simp; done) | (simp; omega))).trans (by first | (simp; done) | go_simp)
          have X_l : w.heap.size < w1.heap.size := Nat.lt_of_lt_of_le (by first | (simp; done) | (simp; omega)) hc1.size
          have P_0 : w1.cell? ⟨w.heap.size + 1, 0, none⟩ = some (.string n) := (hc1.cell (p := ⟨w.heap.size + 1, 0, none⟩) (by first | (simp; done) | (simp; omega))).trans (by first | (simp; done) | go_simp)
          have P_1 : w1.cell? ⟨w.heap.size + 1, 1, none⟩ = some (.int .u32 q) := (hc1.cell (p := ⟨w.heap.size + 1, 1, none⟩) (by first | (simp; done) | (simp; omega))).trans (by first | (simp; done) | go_simp)
          have P_l : w.heap.size + 1 < w1.heap.size := Nat.lt_of_lt_of_le (by first | (simp; done) | (simp; omega)) hc1.size
          have R_0 : w1.cell? ⟨w.heap.size + 2, 0, none⟩ = some (.int .i64 0) := (hc1.cell (p := ⟨w.heap.size + 2, 0, none⟩) (by first | (simp; done) | (simp; omega))).trans (by first | (simp; done) | go_simp)
          have R_1 : w1.cell? ⟨w.heap.size + 2, 1, none⟩ = some (.int .i64 0) := (hc1.cell (p := ⟨w.heap.size + 2, 1, none⟩) (by first | (simp; done) | (simp; omega))).trans (by first | (simp; done) | go_simp)
          have R_2 : w1.cell? ⟨w.heap.size + 2, 2, none⟩ = some (.int .i64 0) := (hc1.cell (p := ⟨w.heap.size + 2, 2, none⟩) (by first | (simp; done) | (simp; omega))).trans (by first | (simp; done) | go_simp)
          have R_3 : w1.cell? ⟨w.heap.size + 2, 3, none⟩ = some (.int .i64 0) := (hc1.cell (p := ⟨w.heap.size + 2, 3, none⟩) (by first | (simp; done) | (simp; omega))).trans (by first | (simp; done) | go_simp)
          have R_4 : w1.cell? ⟨w.heap.size + 2, 4, none⟩ = some (.int .i64 0) := (hc1.cell (p := ⟨w.heap.size + 2, 4, none⟩) (by first | (simp; done) | (simp; omega))).trans (by first | (simp; done) | go_simp)
          have R_5 : w1.cell? ⟨w.heap.size + 2, 5, none⟩ = some (.int .i64 0) := (hc1.cell (p := ⟨w.heap.size + 2, 5, none⟩) (by first | (simp; done) | (simp; omega))).trans (by first | (simp; done) | go_simp)
          have R_6 : w1.cell? ⟨w.heap.size + 2, 6, none⟩ = some (.int .i64 0) := (hc1.cell (p := ⟨w.heap.size + 2, 6, none⟩) (by first | (simp; done) | (simp; omega))).trans (by first | (simp; done) | go_simp)
          have R_7 : w1.cell? ⟨w.heap.size + 2, 7, none⟩ = some (.int .i64 0) := (hc1.cell (p := ⟨w.heap.size + 2, 7, none⟩) (by first | (simp; done) | (simp; omega))).trans (by first | (simp; done) | go_simp)
          have R_8 : w1.cell? ⟨w.heap.size + 2, 8, none⟩ = some (.int .i64 0) := (hc1.cell (p := ⟨w.heap.size + 2, 8, none⟩) (by first | (simp; done) | (simp; omega))).trans (by first | (simp; done) | go_simp)
          have R_9 : w1.cell? ⟨w.heap.size + 2, 9, none⟩ = some (.int .u32 0) := (hc1.cell (p := ⟨w.heap.size + 2, 9, none⟩) (by first | (simp; done) | (simp; omega))).trans (by first | (simp; done) | go_simp)
          have R_10 : w1.cell? ⟨w.heap.size + 2, 10, none⟩ = some (.slice none 0 0) := (hc1.cell (p := ⟨w.heap.size + 2, 10, none⟩) (by first | (simp; done) | (simp; omega))).trans (by first | (simp; done) | go_simp)
          have R_f0 : w1.frozen? ⟨w.heap.size + 2, 0, none⟩ = false := (hc1.frozen (p := ⟨w.heap.size + 2, 0, none⟩) (by first | (simp; done) | (simp; omega))).trans (by first | (simp; done) | go_simp)
          have R_f1 : w1.frozen? ⟨w.heap.size + 2, 1, none⟩ = false := (hc1.frozen (p := ⟨w.heap.size + 2, 1, none⟩) (by first | (simp; done) | (simp; omega))).trans (by first | (simp; done) | go_simp)
          have R_f2 : w1.frozen? ⟨w.heap.size + 2, 2, none⟩ = false := (hc1.frozen (p := ⟨w.heap.size + 2, 2, none⟩) (by first | (simp; done) | (simp; omega))).trans (by first | (simp; done) | go_simp)
          have R_f3 : w1.frozen? ⟨w.heap.size + 2, 3, none⟩ = false := (hc1.frozen (p := ⟨w.heap.size + 2, 3, none⟩) (by first | (simp; done) | (simp; omega))).trans (by first | (simp; done) | go_simp)
          have R_f4 : w1.frozen? ⟨w.heap.size + 2, 4, none⟩ = false := (hc1.frozen (p := ⟨w.heap.size + 2, 4, none⟩) (by first | (simp; done) | (simp; omega))).trans (by first | (simp; done) | go_simp)
          have R_f5 : w1.frozen? ⟨w.heap.size + 2, 5, none⟩ = false := (hc1.frozen (p := ⟨w.heap.size + 2, 5, none⟩) (by first | (simp; done) | (simp; omega))).trans (by first | (simp; done) | go_simp)
          have R_f6 : w1.frozen? ⟨w.heap.size + 2, 6, none⟩ = false := (hc1.frozen (p := ⟨w.heap.size + 2, 6, none⟩) (by first | (simp; done) | (simp; omega))).trans (by first | (simp; done) | go_simp)
          have R_f7 : w1.frozen? ⟨w.heap.size + 2, 7, none⟩ = false := (hc1.frozen (p := ⟨w.heap.size + 2, 7, none⟩) (by first | (simp; done) | (simp; omega))).trans (by first | (simp; done) | go_simp)
          have R_f8 : w1.frozen? ⟨w.heap.size + 2, 8, none⟩ = false := (hc1.frozen (p := ⟨w.heap.size + 2, 8, none⟩) (by first | (simp; done) | (simp; omega))).trans (by first | (simp; done) | go_simp)
          have R_f9 : w1.frozen? ⟨w.heap.size + 2, 9, none⟩ = false := (hc1.frozen (p := ⟨w.heap.size + 2, 9, none⟩) (by first | (simp; done) | (simp; omega))).trans (by first | (simp; done) | go_simp)
          have R_f10 : w1.frozen? ⟨w.heap.size + 2, 10, none⟩ = false := (hc1.frozen (p := ⟨w.heap.size + 2, 10, none⟩) (by first | (simp; done) | (simp; omega))).trans (by first | (simp; done) | go_simp)
          have R_l : w.heap.size + 2 < w1.heap.size := Nat.lt_of_lt_of_le (by first | (simp; done) | (simp; omega)) hc1.size
          replace hS := hS.later hst1
          clear hst1
          clear hc1 hb0
          go_wp2_with fail
          with_reducible refine (H_hval.out _).mono ?_
          rintro e w2 ⟨rfl, hc2⟩
          have hb2 : Below w.heap.size w w2 := bchain (by repeat' (first | with_reducible exact hb1 | with_reducible refine Below.drew ?_ | with_reducible refine below_drewN ?_ _ | with_reducible refine Below.alloc ?_ (by have := hb1.size; first | (simp; done) | (simp; omega) | omega) _ | with_reducible refine Below.setCell ?_ (by first | (simp; done) | (simp; omega) | omega) _)) hc2
          have hst2 : Below w1.heap.size w1 w2 := bchain (by repeat' (first | with_reducible exact Below.refl _ _ | with_reducible refine Below.drew ?_ | with_reducible refine below_drewN ?_ _ | with_reducible refine Below.alloc ?_ (by first | (simp; done) | (simp; omega) | omega) _ | with_reducible refine Below.setCell ?_ (by first | (simp; done) | (simp; omega) | omega) _)) hc2
          replace X_0 := cell_later hst2 X_0
          replace X_1 := cell_later hst2 X_1
          replace X_2 := cell_later hst2 X_2
          replace X_3 := cell_later hst2 X_3
          replace X_4 := cell_later hst2 X_4
          replace X_5 := cell_later hst2 X_5
          replace X_6 := cell_later hst2 X_6
          replace X_7 := cell_later hst2 X_7
          replace X_8 := cell_later hst2 X_8
          replace X_9 := cell_later hst2 X_9
          replace X_10 := cell_later hst2 X_10
          replace X_f0 := frozen_later hst2 X_l X_f0
          replace X_f1 := frozen_later hst2 X_l X_f1
          replace X_f2 := frozen_later hst2 X_l X_f2
          replace X_f3 := frozen_later hst2 X_l X_f3
          replace X_f4 := frozen_later hst2 X_l X_f4
          replace X_f5 := frozen_later hst2 X_l X_f5
          replace X_f6 := frozen_later hst2 X_l X_f6
          replace X_f7 := frozen_later hst2 X_l X_f7
          replace X_f8 := frozen_later hst2 X_l X_f8
          replace X_f9 := frozen_later hst2 X_l X_f9
          replace X_f10 := frozen_later hst2 X_l X_f10
          replace X_l := Nat.lt_of_lt_of_le X_l hst2.size
          replace P_0 := cell_later hst2 P_0
          replace P_1 := cell_later hst2 P_1
          replace P_l := Nat.lt_of_lt_of_le P_l hst2.size
          replace R_0 := cell_later hst2 R_0
          replace R_1 := cell_later hst2 R_1
          replace R_2 := cell_later hst2 R_2
          replace R_3 := cell_later hst2 R_3
          replace R_4 := cell_later hst2 R_4
          replace R_5 := cell_later hst2 R_5
          replace R_6 := cell_later hst2 R_6
          replace R_7 := cell_later hst2 R_7
          replace R_8 := cell_later hst2 R_8
          replace R_9 := cell_later hst2 R_9
          replace R_10 := cell_later hst2 R_10
          replace R_f0 := frozen_later hst2 R_l R_f0
          replace R_f1 := frozen_later hst2 R_l R_f1
          replace R_f2 := frozen_later hst2 R_l R_f2
          replace R_f3 := frozen_later hst2 R_l R_f3
          replace R_f4 := frozen_later hst2 R_l R_f4
          replace R_f5 := frozen_later hst2 R_l R_f5
          replace R_f6 := frozen_later hst2 R_l R_f6
          replace R_f7 := frozen_later hst2 R_l R_f7
          replace R_f8 := frozen_later hst2 R_l R_f8
          replace R_f9 := frozen_later hst2 R_l R_f9
          replace R_f10 := frozen_later hst2 R_l R_f10
          replace R_l := Nat.lt_of_lt_of_le R_l hst2.size
          replace hS := hS.later hst2
          clear hst2
          clear hc2 hb1
          go_wp2_with fail
          with_reducible refine (H_hnm.out _ hS).mono ?_
          rintro e w3 ⟨rfl, hc3⟩
          have hb3 : Below w.heap.size w w3 := bchain (by repeat' (first | with_reducible exact hb2 | with_reducible refine Below.drew ?_ | with_reducible refine below_drewN ?_ _ | with_reducible refine Below.alloc ?_ (by have := hb2.size; first | (simp; done) | (simp; omega) | omega) _ | with_reducible refine Below.setCell ?_ (by first | (simp; done) | (simp; omega) | omega) _)) hc3
          have hst3 : Below w2.heap.size w2 w3 := bchain (by repeat' (first | with_reducible exact Below.refl _ _ | with_reducible refine Below.drew ?_ | with_reducible refine below_drewN ?_ _ | with_reducible refine Below.alloc ?_ (by first | (simp; done) | (simp; omega) | omega) _ | with_reducible refine Below.setCell ?_ (by first | (simp; done) | (simp; omega) | omega) _)) hc3
          replace X_0 := cell_later hst3 X_0
          replace X_1 := cell_later hst3 X_1
          replace X_2 := cell_later hst3 X_2
          replace X_3 := cell_later hst3 X_3
          replace X_4 := cell_later hst3 X_4
          replace X_5 := cell_later hst3 X_5
          replace X_6 := cell_later hst3 X_6
          replace X_7 := cell_later hst3 X_7
          replace X_8 := cell_later hst3 X_8
          replace X_9 := cell_later hst3 X_9
          replace X_10 := cell_later hst3 X_10
          replace X_f0 := frozen_later hst3 X_l X_f0
          replace X_f1 := frozen_later hst3 X_l X_f1
          replace X_f2 := frozen_later hst3 X_l X_f2
          replace X_f3 := frozen_later hst3 X_l X_f3
          replace X_f4 := frozen_later hst3 X_l X_f4
          replace X_f5 := frozen_later hst3 X_l X_f5
          replace X_f6 := frozen_later hst3 X_l X_f6
          replace X_f7 := frozen_later hst3 X_l X_f7
          replace X_f8 := frozen_later hst3 X_l X_f8
          replace X_f9 := frozen_later hst3 X_l X_f9
          replace X_f10 := frozen_later hst3 X_l X_f10
          replace X_l := Nat.lt_of_lt_of_le X_l hst3.size
          replace P_0 := cell_later hst3 P_0
          replace P_1 := cell_later hst3 P_1
          replace P_l := Nat.lt_of_lt_of_le P_l hst3.size
          replace R_0 := cell_later hst3 R_0
          replace R_1 := cell_later hst3 R_1
          replace R_2 := cell_later hst3 R_2
          replace R_3 := cell_later hst3 R_3
          replace R_4 := cell_later hst3 R_4
          replace R_5 := cell_later hst3 R_5
          replace R_6 := cell_later hst3 R_6
          replace R_7 := cell_later hst3 R_7
          replace R_8 := cell_later hst3 R_8
          replace R_9 := cell_later hst3 R_9
          replace R_10 := cell_later hst3 R_10
          replace R_f0 := frozen_later hst3 R_l R_f0
          replace R_f1 := frozen_later hst3 R_l R_f1
          replace R_f2 := frozen_later hst3 R_l R_f2
          replace R_f3 := frozen_later hst3 R_l R_f3
          replace R_f4 := frozen_later hst3 R_l R_f4
          replace R_f5 := frozen_later hst3 R_l R_f5
          replace R_f6 := frozen_later hst3 R_l R_f6
          replace R_f7 := frozen_later hst3 R_l R_f7
          replace R_f8 := frozen_later hst3 R_l R_f8
          replace R_f9 := frozen_later hst3 R_l R_f9
          replace R_f10 := frozen_later hst3 R_l R_f10
          replace R_l := Nat.lt_of_lt_of_le R_l hst3.size
          replace hS := hS.later hst3
          clear hst3
          clear hc3 hb2
          go_wp2_with fail
          refine bodyPost_ret (v := .tuple #[.agg #[.int .i64 0, .int .i64 0, .int .i64 0, .int .i64 0, .int .i64 0, .int .i64 0, .int .i64 0, .int .i64 0, .int .i64 0, .int .u32 0, .slice none 0 0], .int .i64 14]) (by simp [results, Tryd.results21, go_sem, *]) rfl ⟨RetS.of (r := zOut 14) ⟨none, 0, rfl, .inl rfl⟩ H_hr2.out, (by repeat' (first | with_reducible exact hb3 | with_reducible refine Below.drew ?_ | with_reducible refine below_drewN ?_ _ | with_reducible refine Below.alloc ?_ (by have := hb3.size; first | (simp; done) | (simp; omega) | omega) _ | with_reducible refine Below.setCell ?_ (by first | (simp; done) | (simp; omega) | omega) _))⟩
        · subst he
          by_cases h8 : ps.length = 8
          · have hr2 : zOut 18 = R := by rw [← hR]; unfold withR; rw [if_pos rfl, hb, hh, if_neg hw, if_pos h8]; rfl
            have h8' : (8 : Int) ≤ (ps.length : Int) := by omega
            have H_hR := Box.mk hR
            have H_hE := Box.mk hE
            have H_hr2 := Box.mk hr2
            have H_hwho := Box.mk hwho
            have H_hval := Box.mk hval
            have H_hnm := Box.mk hnm
            have H_hev := Box.mk hev
            have H_hcv := Box.mk hcv
            have H_hinc := Box.mk hinc
            have H_hw := Box.mk hw
            have H_hb := Box.mk hb
            have H_hh := Box.mk hh
            have H_h8 := Box.mk h8
            clear hR hE hr2 hwho hval hnm hev hcv hinc hw hb hh h8
            go_enter Tryd.func21, Tryd.ntmps21
            have hb0 := Below.refl w.heap.size w
            go_wp2_with fail
            with_reducible refine (H_hwho.out _ (((hS.alloc _).alloc _).alloc _)).mono ?_
            rintro e w1 ⟨rfl, hc1⟩
            have hb1 : Below w.heap.size w w1 := bchain (by repeat' (first | with_reducible exact hb0 | with_reducible refine Below.drew ?_ | with_reducible refine below_drewN ?_ _ | with_reducible refine Below.alloc ?_ (by have := hb0.size; first | (simp; done) | (simp; omega) | omega) _ | with_reducible refine Below.setCell ?_ (by first | (simp; done) | (simp; omega) | omega) _)) hc1
            have hst1 : Below w.heap.size w w1 := bchain (by repeat' (first | with_reducible exact Below.refl _ _ | with_reducible refine Below.drew ?_ | with_reducible refine below_drewN ?_ _ | with_reducible refine Below.alloc ?_ (by first | (simp; done) | (simp; omega) | omega) _ | with_reducible refine Below.setCell ?_ (by first | (simp; done) | (simp; omega) | omega) _)) hc1
            have X_0 : w1.cell? ⟨w.heap.size, 0, none⟩ = some (.int .i64 l0) := (hc1.cell (p := ⟨w.heap.size, 0, none⟩) (by first | (simp; done) | (simp; omega))).trans (by first | (simp; done) | go_simp)
            have X_1 : w1.cell? ⟨w.heap.size, 1, none⟩ = some (.int .i64 l1) := (hc1.cell (p := ⟨w.heap.size, 1, none⟩) (by first | (simp; done) | (simp; omega))).trans (by first | (simp; done) | go_simp)
            have X_2 : w1.cell? ⟨w.heap.size, 2, none⟩ = some (.int .i64 l2) := (hc1.cell (p := ⟨w.heap.size, 2, none⟩) (by first | (simp; done) | (simp; omega))).trans (by first | (simp; done) | go_simp)
            have X_3 : w1.cell? ⟨w.heap.size, 3, none⟩ = some (.int .i64 l3) := (hc1.cell (p := ⟨w.heap.size, 3, none⟩) (by first | (simp; done) | (simp; omega))).trans (by first | (simp; done) | go_simp)
            have X_4 : w1.cell? ⟨w.heap.size, 4, none⟩ = some (.int .i64 l4) := (hc1.cell (p := ⟨w.heap.size, 4, none⟩) (by first | (simp; done) | (simp; omega))).trans (by first | (simp; done) | go_simp)
            have X_5 : w1.cell? ⟨w.heap.size, 5, none⟩ = some (.int .i64 l5) := (hc1.cell (p := ⟨w.heap.size, 5, none⟩) (by first | (simp; done) | (simp; omega))).trans (by first | (simp; done) | go_simp)
            have X_6 : w1.cell? ⟨w.heap.size, 6, none⟩ = some (.int .i64 l6) := (hc1.cell (p := ⟨w.heap.size, 6, none⟩) (by first | (simp; done) | (simp; omega))).trans (by first | (simp; done) | go_simp)
            have X_7 : w1.cell? ⟨w.heap.size, 7, none⟩ = some (.int .i64 l7) := (hc1.cell (p := ⟨w.heap.size, 7, none⟩) (by first | (simp; done) | (simp; omega))).trans (by first | (simp; done) | go_simp)
            have X_8 : w1.cell? ⟨w.heap.size, 8, none⟩ = some (.int .i64 l8) := (hc1.cell (p := ⟨w.heap.size, 8, none⟩) (by first | (simp; done) | (simp; omega))).trans (by first | (simp; done) | go_simp)
            have X_9 : w1.cell? ⟨w.heap.size, 9, none⟩ = some (.int .u32 s) := (hc1.cell (p := ⟨w.heap.size, 9, none⟩) (by first | (simp; done) | (simp; omega))).trans (by first | (simp; done) | go_simp)
            have X_10 : w1.cell? ⟨w.heap.size, 10, none⟩ = some (.slice a ps.length c) := (hc1.cell (p := ⟨w.heap.size, 10, none⟩) (by first | (simp; done) | (simp; omega))).trans (by first | (simp; done) | go_simp)
            have X_f0 : w1.frozen? ⟨w.heap.size, 0, none⟩ = false := (hc1.frozen (p := ⟨w.heap.size, 0, none⟩) (by first | (simp; done) | (simp; omega))).trans (by first | (simp; done) | go_simp)
            have X_f1 : w1.frozen? ⟨w.heap.size, 1, none⟩ = false := (hc1.frozen (p := ⟨w.heap.size, 1, none⟩) (by first | (simp; done) | (simp; omega))).trans (by first | (simp; done) | go_simp)
            have X_f2 : w1.frozen? ⟨w.heap.size, 2, none⟩ = false := (hc1.frozen (p := ⟨w.heap.size, 2, none⟩) (by first | (simp; done) | (simp; omega))).trans (by first | (simp; done) | go_simp)
            have X_f3 : w1.frozen? ⟨w.heap.size, 3, none⟩ = false := (hc1.frozen (p := ⟨w.heap.size, 3, none⟩) (by first | (simp; done) | (simp; omega))).trans (by first | (simp; done) | go_simp)
            have X_f4 : w1.frozen? ⟨w.heap.size, 4, none⟩ = false := (hc1.frozen (p := ⟨w.heap.size, 4, none⟩) (by first | (simp; done) | (simp; omega))).trans (by first | (simp; done) | go_simp)
            have X_f5 : w1.frozen? ⟨w.heap.size, 5, none⟩ = false := (hc1.frozen (p := ⟨w.heap.size, 5, none⟩) (by first | (simp; done) | (simp; omega))).trans (by first | (simp; done) | go_simp)
            have X_f6 : w1.frozen? ⟨w.heap.size, 6, none⟩ = false := (hc1.frozen (p := ⟨w.heap.size, 6, none⟩) (by first | (simp; done) | (simp; omega))).trans (by first | (simp; done) | go_simp)
            have X_f7 : w1.frozen? ⟨w.heap.size, 7, none⟩ = false := (hc1.frozen (p := ⟨w.heap.size, 7, none⟩) (by first | (simp; done) | (simp; omega))).trans (by first | (simp; done) | go_simp)
            have X_f8 : w1.frozen? ⟨w.heap.size, 8, none⟩ = false := (hc1.frozen (p := ⟨w.heap.size, 8, none⟩) (by first | (simp; done) | (simp; omega))).trans (by first | (simp; done) | go_simp)
            have X_f9 : w1.frozen? ⟨w.heap.size, 9, none⟩ = false := (hc1.frozen (p := ⟨w.heap.size, 9, none⟩) (by first | (simp; done) | (simp; omega))).trans (by first | (simp; done) | go_simp)
            have X_f10 : w1.frozen? ⟨w.heap.size, 10, none⟩ = false := (hc1.frozen (p := ⟨w.heap.size, 10, none⟩) (by first | (simp; done) | (simp; omega))).trans (by first | (simp; done) | go_simp)
            have X_l : w.heap.size < w1.heap.size := Nat.lt_of_lt_of_le (by first | (simp; done) | (simp; omega)) hc1.size
            have P_0 : w1.cell? ⟨w.heap.size + 1, 0, none⟩ = some (.string n) := (hc1.cell (p := ⟨w.heap.size + 1, 0, none⟩) (by first | (simp; done) | (simp; omega))).trans (by first | (simp; done) | go_simp)
            have P_1 : w1.cell? ⟨w.heap.size + 1, 1, none⟩ = some (.int .u32 q) := (hc1.cell (p := ⟨w.heap.size + 1, 1, none⟩) (by first | (simp; done) | (simp; omega))).trans (by first | (simp; done) | go_simp)
            have P_l : w.heap.size + 1 < w1.heap.size := Nat.lt_of_lt_of_le (by first | (simp; done) | (simp; omega)) hc1.size
            have R_0 : w1.cell? ⟨w.heap.size + 2, 0, none⟩ = some (.int .i64 0) := (hc1.cell (p := ⟨w.heap.size + 2, 0, none⟩) (by first | (simp; done) | (simp; omega))).trans (by first | (simp; done) | go_simp)
            have R_1 : w1.cell? ⟨w.heap.size + 2, 1, none⟩ = some (.int .i64 0) := (hc1.cell (p := ⟨w.heap.size + 2, 1, none⟩) (by first | (simp; done) | (simp; omega))).trans (by first | (simp; done) | go_simp)
            have R_2 : w1.cell? ⟨w.heap.size + 2, 2, none⟩ = some (.int .i64 0) := (hc1.cell (p := ⟨w.heap.size + 2, 2, none⟩) (by first | (simp; done) | (simp; omega))).trans (by first | (simp; done) | go_simp)
            have R_3 : w1.cell? ⟨w.heap.size + 2, 3, none⟩ = some (.int .i64 0) := (hc1.cell (p := ⟨w.heap.size + 2, 3, none⟩) (by first | (simp; done) | (simp; omega))).trans (by first | (simp; done) | go_simp)
            have R_4 : w1.cell? ⟨w.heap.size + 2, 4, none⟩ = some (.int .i64 0) := (hc1.cell (p := ⟨w.heap.size + 2, 4, none⟩) (by first | (simp; done) | (simp; omega))).trans (by first | (simp; done) | go_simp)
            have R_5 : w1.cell? ⟨w.heap.size + 2, 5, none⟩ = some (.int .i64 0) := (hc1.cell (p := ⟨w.heap.size + 2, 5, none⟩) (by first | (simp; done) | (simp; omega))).trans (by first | (simp; done) | go_simp)
            have R_6 : w1.cell? ⟨w.heap.size + 2, 6, none⟩ = some (.int .i64 0) := (hc1.cell (p := ⟨w.heap.size + 2, 6, none⟩) (by first | (simp; done) | (simp; omega))).trans (by first | (simp; done) | go_simp)
            have R_7 : w1.cell? ⟨w.heap.size + 2, 7, none⟩ = some (.int .i64 0) := (hc1.cell (p := ⟨w.heap.size + 2, 7, none⟩) (by first | (simp; done) | (simp; omega))).trans (by first | (simp; done) | go_simp)
            have R_8 : w1.cell? ⟨w.heap.size + 2, 8, none⟩ = some (.int .i64 0) := (hc1.cell (p := ⟨w.heap.size + 2, 8, none⟩) (by first | (simp; done) | (simp; omega))).trans (by first | (simp; done) | go_simp)
            have R_9 : w1.cell? ⟨w.heap.size + 2, 9, none⟩ = some (.int .u32 0) := (hc1.cell (p := ⟨w.heap.size + 2, 9, none⟩) (by first | (simp; done) | (simp; omega))).trans (by first | (simp; done) | go_simp)
            have R_10 : w1.cell? ⟨w.heap.size + 2, 10, none⟩ = some (.slice none 0 0) := (hc1.cell (p := ⟨w.heap.size + 2, 10, none⟩) (by first | (simp; done) | (simp; omega))).trans (by first | (simp; done) | go_simp)
            have R_f0 : w1.frozen? ⟨w.heap.size + 2, 0, none⟩ = false := (hc1.frozen (p := ⟨w.heap.size + 2, 0, none⟩) (by first | (simp; done) | (simp; omega))).trans (by first | (simp; done) | go_simp)
            have R_f1 : w1.frozen? ⟨w.heap.size + 2, 1, none⟩ = false := (hc1.frozen (p := ⟨w.heap.size + 2, 1, none⟩) (by first | (simp; done) | (simp; omega))).trans (by first | (simp; done) | go_simp)
            have R_f2 : w1.frozen? ⟨w.heap.size + 2, 2, none⟩ = false := (hc1.frozen (p := ⟨w.heap.size + 2, 2, none⟩) (by first | (simp; done) | (simp; omega))).trans (by first | (simp; done) | go_simp)
            have R_f3 : w1.frozen? ⟨w.heap.size + 2, 3, none⟩ = false := (hc1.frozen (p := ⟨w.heap.size + 2, 3, none⟩) (by first | (simp; done) | (simp; omega))).trans (by first | (simp; done) | go_simp)
            have R_f4 : w1.frozen? ⟨w.heap.size + 2, 4, none⟩ = false := (hc1.frozen (p := ⟨w.heap.size + 2, 4, none⟩) (by first | (simp; done) | (simp; omega))).trans (by first | (simp; done) | go_simp)
            have R_f5 : w1.frozen? ⟨w.heap.size + 2, 5, none⟩ = false := (hc1.frozen (p := ⟨w.heap.size + 2, 5, none⟩) (by first | (simp; done) | (simp; omega))).trans (by first | (simp; done) | go_simp)
            have R_f6 : w1.frozen? ⟨w.heap.size + 2, 6, none⟩ = false := (hc1.frozen (p := ⟨w.heap.size + 2, 6, none⟩) (by first | (simp; done) | (simp; omega))).trans (by first | (simp; done) | go_simp)
            have R_f7 : w1.frozen? ⟨w.heap.size + 2, 7, none⟩ = false := (hc1.frozen (p := ⟨w.heap.size + 2, 7, none⟩) (by first | (simp; done) | (simp; omega))).trans (by first | (simp; done) | go_simp)
            have R_f8 : w1.frozen? ⟨w.heap.size + 2, 8, none⟩ = false := (hc1.frozen (p := ⟨w.heap.size + 2, 8, none⟩) (by first | (simp; done) | (simp; omega))).trans (by first | (simp; done) | go_simp)
            have R_f9 : w1.frozen? ⟨w.heap.size + 2, 9, none⟩ = false := (hc1.frozen (p := ⟨w.heap.size + 2, 9, none⟩) (by first | (simp; done) | (simp; omega))).trans (by first | (simp; done) | go_simp)
            have R_f10 : w1.frozen? ⟨w.heap.size + 2, 10, none⟩ = false := (hc1.frozen (p := ⟨w.heap.size + 2, 10, none⟩) (by first | (simp; done) | (simp; omega))).trans (by first | (simp; done) | go_simp)
            have R_l : w.heap.size + 2 < w1.heap.size := Nat.lt_of_lt_of_le (by first | (simp; done) | (simp; omega)) hc1.size
            replace hS := hS.later hst1
            clear hst1
            clear hc1 hb0
            go_wp2_with fail
            with_reducible refine (H_hval.out _).mono ?_
            rintro e w2 ⟨rfl, hc2⟩
            have hb2 : Below w.heap.size w w2 := bchain (by repeat' (first | with_reducible exact hb1 | with_reducible refine Below.drew ?_ | with_reducible refine below_drewN ?_ _ | with_reducible refine Below.alloc ?_ (by have := hb1.size; first | (simp; done) | (simp; omega) | omega) _ | with_reducible refine Below.setCell ?_ (by first | (simp; done) | (simp; omega) | omega) _)) hc2
            have hst2 : Below w1.heap.size w1 w2 := bchain (by repeat' (first | with_reducible exact Below.refl _ _ | with_reducible refine Below.drew ?_ | with_reducible refine below_drewN ?_ _ | with_reducible refine Below.alloc ?_ (by first | (simp; done) | (simp; omega) | omega) _ | with_reducible refine Below.setCell ?_ (by first | (simp; done) | (simp; omega) | omega) _)) hc2
            replace X_0 := cell_later hst2 X_0
            replace X_1 := cell_later hst2 X_1
            replace X_2 := cell_later hst2 X_2
            replace X_3 := cell_later hst2 X_3
            replace X_4 := cell_later hst2 X_4
            replace X_5 := cell_later hst2 X_5
            replace X_6 := cell_later hst2 X_6
            replace X_7 := cell_later hst2 X_7
            replace X_8 := cell_later hst2 X_8
            replace X_9 := cell_later hst2 X_9
            replace X_10 := cell_later hst2 X_10
            replace X_f0 := frozen_later hst2 X_l X_f0
            replace X_f1 := frozen_later hst2 X_l X_f1
            replace X_f2 := frozen_later hst2 X_l X_f2
            replace X_f3 := frozen_later hst2 X_l X_f3
            replace X_f4 := frozen_later hst2 X_l X_f4
            replace X_f5 := frozen_later hst2 X_l X_f5
            replace X_f6 := frozen_later hst2 X_l X_f6
            replace X_f7 := frozen_later hst2 X_l X_f7
            replace X_f8 := frozen_later hst2 X_l X_f8
            replace X_f9 := frozen_later hst2 X_l X_f9
            replace X_f10 := frozen_later hst2 X_l X_f10
            replace X_l := Nat.lt_of_lt_of_le X_l hst2.size
            replace P_0 := cell_later hst2 P_0
            replace P_1 := cell_later hst2 P_1
            replace P_l := Nat.lt_of_lt_of_le P_l hst2.size
            replace R_0 := cell_later hst2 R_0
            replace R_1 := cell_later hst2 R_1
            replace R_2 := cell_later hst2 R_2
            replace R_3 := cell_later hst2 R_3
            replace R_4 := cell_later hst2 R_4
            replace R_5 := cell_later hst2 R_5
            replace R_6 := cell_later hst2 R_6
            replace R_7 := cell_later hst2 R_7
            replace R_8 := cell_later hst2 R_8
            replace R_9 := cell_later hst2 R_9
            replace R_10 := cell_later hst2 R_10
            replace R_f0 := frozen_later hst2 R_l R_f0
            replace R_f1 := frozen_later hst2 R_l R_f1
            replace R_f2 := frozen_later hst2 R_l R_f2
            replace R_f3 := frozen_later hst2 R_l R_f3
            replace R_f4 := frozen_later hst2 R_l R_f4
            replace R_f5 := frozen_later hst2 R_l R_f5
            replace R_f6 := frozen_later hst2 R_l R_f6
            replace R_f7 := frozen_later hst2 R_l R_f7
            replace R_f8 := frozen_later hst2 R_l R_f8
            replace R_f9 := frozen_later hst2 R_l R_f9
            replace R_f10 := frozen_later hst2 R_l R_f10
            replace R_l := Nat.lt_of_lt_of_le R_l hst2.size
            replace hS := hS.later hst2
            clear hst2
            clear hc2 hb1
            go_wp2_with fail
            with_reducible refine (H_hnm.out _ hS).mono ?_
            rintro e w3 ⟨rfl, hc3⟩
            have hb3 : Below w.heap.size w w3 := bchain (by repeat' (first | with_reducible exact hb2 | with_reducible refine Below.drew ?_ | with_reducible refine below_drewN ?_ _ | with_reducible refine Below.alloc ?_ (by have := hb2.size; first | (simp; done) | (simp; omega) | omega) _ | with_reducible refine Below.setCell ?_ (by first | (simp; done) | (simp; omega) | omega) _)) hc3
            have hst3 : Below w2.heap.size w2 w3 := bchain (by repeat' (first | with_reducible exact Below.refl _ _ | with_reducible refine Below.drew ?_ | with_reducible refine below_drewN ?_ _ | with_reducible refine Below.alloc ?_ (by first | (simp; done) | (simp; omega) | omega) _ | with_reducible refine Below.setCell ?_ (by first | (simp; done) | (simp; omega) | omega) _)) hc3
            replace X_0 := cell_later hst3 X_0
            replace X_1 := cell_later hst3 X_1
            replace X_2 := cell_later hst3 X_2
            replace X_3 := cell_later hst3 X_3
            replace X_4 := cell_later hst3 X_4
            replace X_5 := cell_later hst3 X_5
            replace X_6 := cell_later hst3 X_6
            replace X_7 := cell_later hst3 X_7
            replace X_8 := cell_later hst3 X_8
            replace X_9 := cell_later hst3 X_9
            replace X_10 := cell_later hst3 X_10
            replace X_f0 := frozen_later hst3 X_l X_f0
            replace X_f1 := frozen_later hst3 X_l X_f1
            replace X_f2 := frozen_later hst3 X_l X_f2
            replace X_f3 := frozen_later hst3 X_l X_f3
            replace X_f4 := frozen_later hst3 X_l X_f4
            replace X_f5 := frozen_later hst3 X_l X_f5
            replace X_f6 := frozen_later hst3 X_l X_f6
            replace X_f7 := frozen_later hst3 X_l X_f7
            replace X_f8 := frozen_later hst3 X_l X_f8
            replace X_f9 := frozen_later hst3 X_l X_f9
            replace X_f10 := frozen_later hst3 X_l X_f10
            replace X_l := Nat.lt_of_lt_of_le X_l hst3.size
            replace P_0 := cell_later hst3 P_0
            replace P_1 := cell_later hst3 P_1
            replace P_l := Nat.lt_of_lt_of_le P_l hst3.size
            replace R_0 := cell_later hst3 R_0
            replace R_1 := cell_later hst3 R_1
            replace R_2 := cell_later hst3 R_2
            replace R_3 := cell_later hst3 R_3
            replace R_4 := cell_later hst3 R_4
            replace R_5 := cell_later hst3 R_5
            replace R_6 := cell_later hst3 R_6
            replace R_7 := cell_later hst3 R_7
            replace R_8 := cell_later hst3 R_8
            replace R_9 := cell_later hst3 R_9
            replace R_10 := cell_later hst3 R_10
            replace R_f0 := frozen_later hst3 R_l R_f0
            replace R_f1 := frozen_later hst3 R_l R_f1
            replace R_f2 := frozen_later hst3 R_l R_f2
            replace R_f3 := frozen_later hst3 R_l R_f3
            replace R_f4 := frozen_later hst3 R_l R_f4
            replace R_f5 := frozen_later hst3 R_l R_f5
            replace R_f6 := frozen_later hst3 R_l R_f6
            replace R_f7 := frozen_later hst3 R_l R_f7
            replace R_f8 := frozen_later hst3 R_l R_f8
            replace R_f9 := frozen_later hst3 R_l R_f9
            replace R_f10 := frozen_later hst3 R_l R_f10
            replace R_l := Nat.lt_of_lt_of_le R_l hst3.size
            replace hS := hS.later hst3
            clear hst3
            clear hc3 hb2
            go_wp2_with fail
            refine bodyPost_ret (v := .tuple #[.agg #[.int .i64 0, .int .i64 0, .int .i64 0, .int .i64 0, .int .i64 0, .int .i64 0, .int .i64 0, .int .i64 0, .int .i64 0, .int .u32 0, .slice none 0 0], .int .i64 18]) (by simp [results, Tryd.results21, go_sem, *]) rfl ⟨RetS.of (r := zOut 18) ⟨none, 0, rfl, .inl rfl⟩ H_hr2.out, (by repeat' (first | with_reducible exact hb3 | with_reducible refine Below.drew ?_ | with_reducible refine below_drewN ?_ _ | with_reducible refine Below.alloc ?_ (by have := hb3.size; first | (simp; done) | (simp; omega) | omega) _ | with_reducible refine Below.setCell ?_ (by first | (simp; done) | (simp; omega) | omega) _))⟩
          · have h8' : ¬ ((8 : Int) ≤ (ps.length : Int)) := by omega
            have hr2 : (⟨(⟨l0, l1, l2, l3, l4, l5, l6, l7, l8⟩ : Lim), s, ps.take (lb ps n) ++ (n, q) :: ps.drop (lb ps n), 0⟩ : SOut) = R := by rw [← hR]; unfold withR; rw [if_pos rfl, hb, hh, if_neg hw, if_neg h8]; rfl
            obtain ⟨k, hk⟩ : ∃ k, lb ps n = k := ⟨_, rfl⟩
            have hkl := lb_le ps n
            have hne : cel ps ≠ [.string n, .int .u32 q] := fun e => by
              match ps, e, hh with
              | [], e, _ => cases e
              | p :: r, e, hh =>
                rw [cel_cons] at e
                simp only [List.cons.injEq, Value.string.injEq] at e
                have h9 : lb (p :: r) n = 0 := by
                  unfold lb
                  rw [List.findIdx_cons, e.1, sltB_irr]; rfl
                have : hasN (p :: r) n = true := hasN_iff.2 ⟨by rw [h9]; simp, by rw [h9, nm_cons0]; exact e.1⟩
                rw [hh] at this; cases this
            simp only [hk] at hnm
            rw [hk] at hr2 hkl
            have hins : ∀ W B a' c' vb vc, OwnX W B 46 2 (.slice a' ps.length c') ps.length (cel ps) → Blk W vb 46 [.string n, .int .u32 q] → B ≤ W.heap.size → Calls Tryd.prog 50 #[.slice a' ps.length c', .int .i64 k, .slice (some ⟨vb, 0, none⟩) 1 vc] W (fun e w' => ∃ a2 c2, e = .returned (.slice a2 (ps.length + 1) c2) ∧ OwnX w' B 46 2 (.slice a2 (ps.length + 1) c2) (ps.length + 1) (cel (ps.take k ++ (n, q) :: ps.drop k)) ∧ Below B W w') := fun W B a' c' vb vc ho hv hB => by
              refine (insS_new k ps.length c' B vb vc a' (cel ps) [.string n, .int .u32 q] W hkl ho (cel_one _) rfl hv (by intro u hu; simp at hu; rcases hu with rfl | rfl <;> rfl) (by omega) hB hne).mono ?_
              rintro e w' ⟨a2, c2, rfl, ho2, hg, _⟩
              refine ⟨a2, c2, rfl, ?_, below_grownX (Below.refl _ _) hg hB (fun j hj => (ho.lt j hj).1)⟩
              rw [cel_take, cel_drop] at ho2
              rw [cel_append, cel_cons]
              simpa using ho2
            have hcl := fun W (h : SIn W s ps a) => cloneS_any a ps.length c ps W rfl h.cells (by omega)
            clear hne
            have H_hR := Box.mk hR
            have H_hE := Box.mk hE
            have H_hr2 := Box.mk hr2
            have H_hwho := Box.mk hwho
            have H_hval := Box.mk hval
            have H_hnm := Box.mk hnm
            have H_hev := Box.mk hev
            have H_hcv := Box.mk hcv
            have H_hinc := Box.mk hinc
            have H_hw := Box.mk hw
            have H_hb := Box.mk hb
            have H_hh := Box.mk hh
            have H_h8 := Box.mk h8
            have H_hk := Box.mk hk
            have H_hins := Box.mk hins
            have H_hcl := Box.mk hcl
            clear hR hE hr2 hwho hval hnm hev hcv hinc hw hb hh h8 hk hins hcl
            go_enter Tryd.func21, Tryd.ntmps21
            have hb0 := Below.refl w.heap.size w
            go_wp2_with fail
            with_reducible refine (H_hwho.out _ (((hS.alloc _).alloc _).alloc _)).mono ?_
            rintro e w1 ⟨rfl, hc1⟩
            have hb1 : Below w.heap.size w w1 := bchain (by repeat' (first | with_reducible exact hb0 | with_reducible refine Below.drew ?_ | with_reducible refine below_drewN ?_ _ | with_reducible refine Below.alloc ?_ (by have := hb0.size; first | (simp; done) | (simp; omega) | omega) _ | with_reducible refine Below.setCell ?_ (by first | (simp; done) | (simp; omega) | omega) _)) hc1
            have hst1 : Below w.heap.size w w1 := bchain (by repeat' (first | with_reducible exact Below.refl _ _ | with_reducible refine Below.drew ?_ | with_reducible refine below_drewN ?_ _ | with_reducible refine Below.alloc ?_ (by first | (simp; done) | (simp; omega) | omega) _ | with_reducible refine Below.setCell ?_ (by first | (simp; done) | (simp; omega) | omega) _)) hc1
            have X_0 : w1.cell? ⟨w.heap.size, 0, none⟩ = some (.int .i64 l0) := (hc1.cell (p := ⟨w.heap.size, 0, none⟩) (by first | (simp; done) | (simp; omega))).trans (by first | (simp; done) | go_simp)
            have X_1 : w1.cell? ⟨w.heap.size, 1, none⟩ = some (.int .i64 l1) := (hc1.cell (p := ⟨w.heap.size, 1, none⟩) (by first | (simp; done) | (simp; omega))).trans (by first | (simp; done) | go_simp)
            have X_2 : w1.cell? ⟨w.heap.size, 2, none⟩ = some (.int .i64 l2) := (hc1.cell (p := ⟨w.heap.size, 2, none⟩) (by first | (simp; done) | (simp; omega))).trans (by first | (simp; done) | go_simp)
            have X_3 : w1.cell? ⟨w.heap.size, 3, none⟩ = some (.int .i64 l3) := (hc1.cell (p := ⟨w.heap.size, 3, none⟩) (by first | (simp; done) | (simp; omega))).trans (by first | (simp; done) | go_simp)
            have X_4 : w1.cell? ⟨w.heap.size, 4, none⟩ = some (.int .i64 l4) := (hc1.cell (p := ⟨w.heap.size, 4, none⟩) (by first | (simp; done) | (simp; omega))).trans (by first | (simp; done) | go_simp)
            have X_5 : w1.cell? ⟨w.heap.size, 5, none⟩ = some (.int .i64 l5) := (hc1.cell (p := ⟨w.heap.size, 5, none⟩) (by first | (simp; done) | (simp; omega))).trans (by first | (simp; done) | go_simp)
            have X_6 : w1.cell? ⟨w.heap.size, 6, none⟩ = some (.int .i64 l6) := (hc1.cell (p := ⟨w.heap.size, 6, none⟩) (by first | (simp; done) | (simp; omega))).trans (by first | (simp; done) | go_simp)
            have X_7 : w1.cell? ⟨w.heap.size, 7, none⟩ = some (.int .i64 l7) := (hc1.cell (p := ⟨w.heap.size, 7, none⟩) (by first | (simp; done) | (simp; omega))).trans (by first | (simp; done) | go_simp)
            have X_8 : w1.cell? ⟨w.heap.size, 8, none⟩ = some (.int .i64 l8) := (hc1.cell (p := ⟨w.heap.size, 8, none⟩) (by first | (simp; done) | (simp; omega))).trans (by first | (simp; done) | go_simp)
            have X_9 : w1.cell? ⟨w.heap.size, 9, none⟩ = some (.int .u32 s) := (hc1.cell (p := ⟨w.heap.size, 9, none⟩) (by first | (simp; done) | (simp; omega))).trans (by first | (simp; done) | go_simp)
            have X_10 : w1.cell? ⟨w.heap.size, 10, none⟩ = some (.slice a ps.length c) := (hc1.cell (p := ⟨w.heap.size, 10, none⟩) (by first | (simp; done) | (simp; omega))).trans (by first | (simp; done) | go_simp)
            have X_f0 : w1.frozen? ⟨w.heap.size, 0, none⟩ = false := (hc1.frozen (p := ⟨w.heap.size, 0, none⟩) (by first | (simp; done) | (simp; omega))).trans (by first | (simp; done) | go_simp)
            have X_f1 : w1.frozen? ⟨w.heap.size, 1, none⟩ = false := (hc1.frozen (p := ⟨w.heap.size, 1, none⟩) (by first | (simp; done) | (simp; omega))).trans (by first | (simp; done) | go_simp)
            have X_f2 : w1.frozen? ⟨w.heap.size, 2, none⟩ = false := (hc1.frozen (p := ⟨w.heap.size, 2, none⟩) (by first | (simp; done) | (simp; omega))).trans (by first | (simp; done) | go_simp)
            have X_f3 : w1.frozen? ⟨w.heap.size, 3, none⟩ = false := (hc1.frozen (p := ⟨w.heap.size, 3, none⟩) (by first | (simp; done) | (simp; omega))).trans (by first | (simp; done) | go_simp)
            have X_f4 : w1.frozen? ⟨w.heap.size, 4, none⟩ = false := (hc1.frozen (p := ⟨w.heap.size, 4, none⟩) (by first | (simp; done) | (simp; omega))).trans (by first | (simp; done) | go_simp)
            have X_f5 : w1.frozen? ⟨w.heap.size, 5, none⟩ = false := (hc1.frozen (p := ⟨w.heap.size, 5, none⟩) (by first | (simp; done) | (simp; omega))).trans (by first | (simp; done) | go_simp)
            have X_f6 : w1.frozen? ⟨w.heap.size, 6, none⟩ = false := (hc1.frozen (p := ⟨w.heap.size, 6, none⟩) (by first | (simp; done) | (simp; omega))).trans (by first | (simp; done) | go_simp)
            have X_f7 : w1.frozen? ⟨w.heap.size, 7, none⟩ = false := (hc1.frozen (p := ⟨w.heap.size, 7, none⟩) (by first | (simp; done) | (simp; omega))).trans (by first | (simp; done) | go_simp)
            have X_f8 : w1.frozen? ⟨w.heap.size, 8, none⟩ = false := (hc1.frozen (p := ⟨w.heap.size, 8, none⟩) (by first | (simp; done) | (simp; omega))).trans (by first | (simp; done) | go_simp)
            have X_f9 : w1.frozen? ⟨w.heap.size, 9, none⟩ = false := (hc1.frozen (p := ⟨w.heap.size, 9, none⟩) (by first | (simp; done) | (simp; omega))).trans (by first | (simp; done) | go_simp)
            have X_f10 : w1.frozen? ⟨w.heap.size, 10, none⟩ = false := (hc1.frozen (p := ⟨w.heap.size, 10, none⟩) (by first | (simp; done) | (simp; omega))).trans (by first | (simp; done) | go_simp)
            have X_l : w.heap.size < w1.heap.size := Nat.lt_of_lt_of_le (by first | (simp; done) | (simp; omega)) hc1.size
            have P_0 : w1.cell? ⟨w.heap.size + 1, 0, none⟩ = some (.string n) := (hc1.cell (p := ⟨w.heap.size + 1, 0, none⟩) (by first | (simp; done) | (simp; omega))).trans (by first | (simp; done) | go_simp)
            have P_1 : w1.cell? ⟨w.heap.size + 1, 1, none⟩ = some (.int .u32 q) := (hc1.cell (p := ⟨w.heap.size + 1, 1, none⟩) (by first | (simp; done) | (simp; omega))).trans (by first | (simp; done) | go_simp)
            have P_l : w.heap.size + 1 < w1.heap.size := Nat.lt_of_lt_of_le (by first | (simp; done) | (simp; omega)) hc1.size
            have R_0 : w1.cell? ⟨w.heap.size + 2, 0, none⟩ = some (.int .i64 0) := (hc1.cell (p := ⟨w.heap.size + 2, 0, none⟩) (by first | (simp; done) | (simp; omega))).trans (by first | (simp; done) | go_simp)
            have R_1 : w1.cell? ⟨w.heap.size + 2, 1, none⟩ = some (.int .i64 0) := (hc1.cell (p := ⟨w.heap.size + 2, 1, none⟩) (by first | (simp; done) | (simp; omega))).trans (by first | (simp; done) | go_simp)
            have R_2 : w1.cell? ⟨w.heap.size + 2, 2, none⟩ = some (.int .i64 0) := (hc1.cell (p := ⟨w.heap.size + 2, 2, none⟩) (by first | (simp; done) | (simp; omega))).trans (by first | (simp; done) | go_simp)
            have R_3 : w1.cell? ⟨w.heap.size + 2, 3, none⟩ = some (.int .i64 0) := (hc1.cell (p := ⟨w.heap.size + 2, 3, none⟩) (by first | (simp; done) | (simp; omega))).trans (by first | (simp; done) | go_simp)
            have R_4 : w1.cell? ⟨w.heap.size + 2, 4, none⟩ = some (.int .i64 0) := (hc1.cell (p := ⟨w.heap.size + 2, 4, none⟩) (by first | (simp; done) | (simp; omega))).trans (by first | (simp; done) | go_simp)
            have R_5 : w1.cell? ⟨w.heap.size + 2, 5, none⟩ = some (.int .i64 0) := (hc1.cell (p := ⟨w.heap.size + 2, 5, none⟩) (by first | (simp; done) | (simp; omega))).trans (by first | (simp; done) | go_simp)
            have R_6 : w1.cell? ⟨w.heap.size + 2, 6, none⟩ = some (.int .i64 0) := (hc1.cell (p := ⟨w.heap.size + 2, 6, none⟩) (by first | (simp; done) | (simp; omega))).trans (by first | (simp; done) | go_simp)
            have R_7 : w1.cell? ⟨w.heap.size + 2, 7, none⟩ = some (.int .i64 0) := (hc1.cell (p := ⟨w.heap.size + 2, 7, none⟩) (by first | (simp; done) | (simp; omega))).trans (by first | (simp; done) | go_simp)
            have R_8 : w1.cell? ⟨w.heap.size + 2, 8, none⟩ = some (.int .i64 0) := (hc1.cell (p := ⟨w.heap.size + 2, 8, none⟩) (by first | (simp; done) | (simp; omega))).trans (by first | (simp; done) | go_simp)
            have R_9 : w1.cell? ⟨w.heap.size + 2, 9, none⟩ = some (.int .u32 0) := (hc1.cell (p := ⟨w.heap.size + 2, 9, none⟩) (by first | (simp; done) | (simp; omega))).trans (by first | (simp; done) | go_simp)
            have R_10 : w1.cell? ⟨w.heap.size + 2, 10, none⟩ = some (.slice none 0 0) := (hc1.cell (p := ⟨w.heap.size + 2, 10, none⟩) (by first | (simp; done) | (simp; omega))).trans (by first | (simp; done) | go_simp)
            have R_f0 : w1.frozen? ⟨w.heap.size + 2, 0, none⟩ = false := (hc1.frozen (p := ⟨w.heap.size + 2, 0, none⟩) (by first | (simp; done) | (simp; omega))).trans (by first | (simp; done) | go_simp)
            have R_f1 : w1.frozen? ⟨w.heap.size + 2, 1, none⟩ = false := (hc1.frozen (p := ⟨w.heap.size + 2, 1, none⟩) (by first | (simp; done) | (simp; omega))).trans (by first | (simp; done) | go_simp)
            have R_f2 : w1.frozen? ⟨w.heap.size + 2, 2, none⟩ = false := (hc1.frozen (p := ⟨w.heap.size + 2, 2, none⟩) (by first | (simp; done) | (simp; omega))).trans (by first | (simp; done) | go_simp)
            have R_f3 : w1.frozen? ⟨w.heap.size + 2, 3, none⟩ = false := (hc1.frozen (p := ⟨w.heap.size + 2, 3, none⟩) (by first | (simp; done) | (simp; omega))).trans (by first | (simp; done) | go_simp)
            have R_f4 : w1.frozen? ⟨w.heap.size + 2, 4, none⟩ = false := (hc1.frozen (p := ⟨w.heap.size + 2, 4, none⟩) (by first | (simp; done) | (simp; omega))).trans (by first | (simp; done) | go_simp)
            have R_f5 : w1.frozen? ⟨w.heap.size + 2, 5, none⟩ = false := (hc1.frozen (p := ⟨w.heap.size + 2, 5, none⟩) (by first | (simp; done) | (simp; omega))).trans (by first | (simp; done) | go_simp)
            have R_f6 : w1.frozen? ⟨w.heap.size + 2, 6, none⟩ = false := (hc1.frozen (p := ⟨w.heap.size + 2, 6, none⟩) (by first | (simp; done) | (simp; omega))).trans (by first | (simp; done) | go_simp)
            have R_f7 : w1.frozen? ⟨w.heap.size + 2, 7, none⟩ = false := (hc1.frozen (p := ⟨w.heap.size + 2, 7, none⟩) (by first | (simp; done) | (simp; omega))).trans (by first | (simp; done) | go_simp)
            have R_f8 : w1.frozen? ⟨w.heap.size + 2, 8, none⟩ = false := (hc1.frozen (p := ⟨w.heap.size + 2, 8, none⟩) (by first | (simp; done) | (simp; omega))).trans (by first | (simp; done) | go_simp)
            have R_f9 : w1.frozen? ⟨w.heap.size + 2, 9, none⟩ = false := (hc1.frozen (p := ⟨w.heap.size + 2, 9, none⟩) (by first | (simp; done) | (simp; omega))).trans (by first | (simp; done) | go_simp)
            have R_f10 : w1.frozen? ⟨w.heap.size + 2, 10, none⟩ = false := (hc1.frozen (p := ⟨w.heap.size + 2, 10, none⟩) (by first | (simp; done) | (simp; omega))).trans (by first | (simp; done) | go_simp)
            have R_l : w.heap.size + 2 < w1.heap.size := Nat.lt_of_lt_of_le (by first | (simp; done) | (simp; omega)) hc1.size
            replace hS := hS.later hst1
            clear hst1
            clear hc1 hb0
            go_wp2_with fail
            with_reducible refine (H_hval.out _).mono ?_
            rintro e w2 ⟨rfl, hc2⟩
            have hb2 : Below w.heap.size w w2 := bchain (by repeat' (first | with_reducible exact hb1 | with_reducible refine Below.drew ?_ | with_reducible refine below_drewN ?_ _ | with_reducible refine Below.alloc ?_ (by have := hb1.size; first | (simp; done) | (simp; omega) | omega) _ | with_reducible refine Below.setCell ?_ (by first | (simp; done) | (simp; omega) | omega) _)) hc2
            have hst2 : Below w1.heap.size w1 w2 := bchain (by repeat' (first | with_reducible exact Below.refl _ _ | with_reducible refine Below.drew ?_ | with_reducible refine below_drewN ?_ _ | with_reducible refine Below.alloc ?_ (by first | (simp; done) | (simp; omega) | omega) _ | with_reducible refine Below.setCell ?_ (by first | (simp; done) | (simp; omega) | omega) _)) hc2
            replace X_0 := cell_later hst2 X_0
            replace X_1 := cell_later hst2 X_1
            replace X_2 := cell_later hst2 X_2
            replace X_3 := cell_later hst2 X_3
            replace X_4 := cell_later hst2 X_4
            replace X_5 := cell_later hst2 X_5
            replace X_6 := cell_later hst2 X_6
            replace X_7 := cell_later hst2 X_7
            replace X_8 := cell_later hst2 X_8
            replace X_9 := cell_later hst2 X_9
            replace X_10 := cell_later hst2 X_10
            replace X_f0 := frozen_later hst2 X_l X_f0
            replace X_f1 := frozen_later hst2 X_l X_f1
            replace X_f2 := frozen_later hst2 X_l X_f2
            replace X_f3 := frozen_later hst2 X_l X_f3
            replace X_f4 := frozen_later hst2 X_l X_f4
            replace X_f5 := frozen_later hst2 X_l X_f5
            replace X_f6 := frozen_later hst2 X_l X_f6
            replace X_f7 := frozen_later hst2 X_l X_f7
            replace X_f8 := frozen_later hst2 X_l X_f8
            replace X_f9 := frozen_later hst2 X_l X_f9
            replace X_f10 := frozen_later hst2 X_l X_f10
            replace X_l := Nat.lt_of_lt_of_le X_l hst2.size
            replace P_0 := cell_later hst2 P_0
            replace P_1 := cell_later hst2 P_1
            replace P_l := Nat.lt_of_lt_of_le P_l hst2.size
            replace R_0 := cell_later hst2 R_0
            replace R_1 := cell_later hst2 R_1
            replace R_2 := cell_later hst2 R_2
            replace R_3 := cell_later hst2 R_3
            replace R_4 := cell_later hst2 R_4
            replace R_5 := cell_later hst2 R_5
            replace R_6 := cell_later hst2 R_6
            replace R_7 := cell_later hst2 R_7
            replace R_8 := cell_later hst2 R_8
            replace R_9 := cell_later hst2 R_9
            replace R_10 := cell_later hst2 R_10
            replace R_f0 := frozen_later hst2 R_l R_f0
            replace R_f1 := frozen_later hst2 R_l R_f1
            replace R_f2 := frozen_later hst2 R_l R_f2
            replace R_f3 := frozen_later hst2 R_l R_f3
            replace R_f4 := frozen_later hst2 R_l R_f4
            replace R_f5 := frozen_later hst2 R_l R_f5
            replace R_f6 := frozen_later hst2 R_l R_f6
            replace R_f7 := frozen_later hst2 R_l R_f7
            replace R_f8 := frozen_later hst2 R_l R_f8
            replace R_f9 := frozen_later hst2 R_l R_f9
            replace R_f10 := frozen_later hst2 R_l R_f10
            replace R_l := Nat.lt_of_lt_of_le R_l hst2.size
            replace hS := hS.later hst2
            clear hst2
            clear hc2 hb1
            go_wp2_with fail
            with_reducible refine (H_hnm.out _ hS).mono ?_
            rintro e w3 ⟨rfl, hc3⟩
            have hb3 : Below w.heap.size w w3 := bchain (by repeat' (first | with_reducible exact hb2 | with_reducible refine Below.drew ?_ | with_reducible refine below_drewN ?_ _ | with_reducible refine Below.alloc ?_ (by have := hb2.size; first | (simp; done) | (simp; omega) | omega) _ | with_reducible refine Below.setCell ?_ (by first | (simp; done) | (simp; omega) | omega) _)) hc3
            have hst3 : Below w2.heap.size w2 w3 := bchain (by repeat' (first | with_reducible exact Below.refl _ _ | with_reducible refine Below.drew ?_ | with_reducible refine below_drewN ?_ _ | with_reducible refine Below.alloc ?_ (by first | (simp; done) | (simp; omega) | omega) _ | with_reducible refine Below.setCell ?_ (by first | (simp; done) | (simp; omega) | omega) _)) hc3
            replace X_0 := cell_later hst3 X_0
            replace X_1 := cell_later hst3 X_1
            replace X_2 := cell_later hst3 X_2
            replace X_3 := cell_later hst3 X_3
            replace X_4 := cell_later hst3 X_4
            replace X_5 := cell_later hst3 X_5
            replace X_6 := cell_later hst3 X_6
            replace X_7 := cell_later hst3 X_7
            replace X_8 := cell_later hst3 X_8
            replace X_9 := cell_later hst3 X_9
            replace X_10 := cell_later hst3 X_10
            replace X_f0 := frozen_later hst3 X_l X_f0
            replace X_f1 := frozen_later hst3 X_l X_f1
            replace X_f2 := frozen_later hst3 X_l X_f2
            replace X_f3 := frozen_later hst3 X_l X_f3
            replace X_f4 := frozen_later hst3 X_l X_f4
            replace X_f5 := frozen_later hst3 X_l X_f5
            replace X_f6 := frozen_later hst3 X_l X_f6
            replace X_f7 := frozen_later hst3 X_l X_f7
            replace X_f8 := frozen_later hst3 X_l X_f8
            replace X_f9 := frozen_later hst3 X_l X_f9
            replace X_f10 := frozen_later hst3 X_l X_f10
            replace X_l := Nat.lt_of_lt_of_le X_l hst3.size
            replace P_0 := cell_later hst3 P_0
            replace P_1 := cell_later hst3 P_1
            replace P_l := Nat.lt_of_lt_of_le P_l hst3.size
            replace R_0 := cell_later hst3 R_0
            replace R_1 := cell_later hst3 R_1
            replace R_2 := cell_later hst3 R_2
            replace R_3 := cell_later hst3 R_3
            replace R_4 := cell_later hst3 R_4
            replace R_5 := cell_later hst3 R_5
            replace R_6 := cell_later hst3 R_6
            replace R_7 := cell_later hst3 R_7
            replace R_8 := cell_later hst3 R_8
            replace R_9 := cell_later hst3 R_9
            replace R_10 := cell_later hst3 R_10
            replace R_f0 := frozen_later hst3 R_l R_f0
            replace R_f1 := frozen_later hst3 R_l R_f1
            replace R_f2 := frozen_later hst3 R_l R_f2
            replace R_f3 := frozen_later hst3 R_l R_f3
            replace R_f4 := frozen_later hst3 R_l R_f4
            replace R_f5 := frozen_later hst3 R_l R_f5
            replace R_f6 := frozen_later hst3 R_l R_f6
            replace R_f7 := frozen_later hst3 R_l R_f7
            replace R_f8 := frozen_later hst3 R_l R_f8
            replace R_f9 := frozen_later hst3 R_l R_f9
            replace R_f10 := frozen_later hst3 R_l R_f10
            replace R_l := Nat.lt_of_lt_of_le R_l hst3.size
            replace hS := hS.later hst3
            clear hst3
            clear hc3 hb2
            go_wp2_with fail
            refine wp_gen fun w4 hc4 => ?_
            have hb4 : Below w.heap.size w w4 := bchain (by repeat' (first | with_reducible exact hb3 | with_reducible refine Below.drew ?_ | with_reducible refine below_drewN ?_ _ | with_reducible refine Below.alloc ?_ (by have := hb3.size; first | (simp; done) | (simp; omega) | omega) _ | with_reducible refine Below.setCell ?_ (by first | (simp; done) | (simp; omega) | omega) _)) hc4
            have hst4 : Below w3.heap.size w3 w4 := bchain (by repeat' (first | with_reducible exact Below.refl _ _ | with_reducible refine Below.drew ?_ | with_reducible refine below_drewN ?_ _ | with_reducible refine Below.alloc ?_ (by first | (simp; done) | (simp; omega) | omega) _ | with_reducible refine Below.setCell ?_ (by first | (simp; done) | (simp; omega) | omega) _)) hc4
            replace X_0 := cell_later hst4 X_0
            replace X_1 := cell_later hst4 X_1
            replace X_2 := cell_later hst4 X_2
            replace X_3 := cell_later hst4 X_3
            replace X_4 := cell_later hst4 X_4
            replace X_5 := cell_later hst4 X_5
            replace X_6 := cell_later hst4 X_6
            replace X_7 := cell_later hst4 X_7
            replace X_8 := cell_later hst4 X_8
            replace X_9 := cell_later hst4 X_9
            replace X_10 := cell_later hst4 X_10
            replace X_f0 := frozen_later hst4 X_l X_f0
            replace X_f1 := frozen_later hst4 X_l X_f1
            replace X_f2 := frozen_later hst4 X_l X_f2
            replace X_f3 := frozen_later hst4 X_l X_f3
            replace X_f4 := frozen_later hst4 X_l X_f4
            replace X_f5 := frozen_later hst4 X_l X_f5
            replace X_f6 := frozen_later hst4 X_l X_f6
            replace X_f7 := frozen_later hst4 X_l X_f7
            replace X_f8 := frozen_later hst4 X_l X_f8
            replace X_f9 := frozen_later hst4 X_l X_f9
            replace X_f10 := frozen_later hst4 X_l X_f10
            replace X_l := Nat.lt_of_lt_of_le X_l hst4.size
            replace P_0 := cell_later hst4 P_0
            replace P_1 := cell_later hst4 P_1
            replace P_l := Nat.lt_of_lt_of_le P_l hst4.size
            replace R_0 := cell_later hst4 R_0
            replace R_1 := cell_later hst4 R_1
            replace R_2 := cell_later hst4 R_2
            replace R_3 := cell_later hst4 R_3
            replace R_4 := cell_later hst4 R_4
            replace R_5 := cell_later hst4 R_5
            replace R_6 := cell_later hst4 R_6
            replace R_7 := cell_later hst4 R_7
            replace R_8 := cell_later hst4 R_8
            replace R_9 := cell_later hst4 R_9
            replace R_10 := cell_later hst4 R_10
            replace R_f0 := frozen_later hst4 R_l R_f0
            replace R_f1 := frozen_later hst4 R_l R_f1
            replace R_f2 := frozen_later hst4 R_l R_f2
            replace R_f3 := frozen_later hst4 R_l R_f3
            replace R_f4 := frozen_later hst4 R_l R_f4
            replace R_f5 := frozen_later hst4 R_l R_f5
            replace R_f6 := frozen_later hst4 R_l R_f6
            replace R_f7 := frozen_later hst4 R_l R_f7
            replace R_f8 := frozen_later hst4 R_l R_f8
            replace R_f9 := frozen_later hst4 R_l R_f9
            replace R_f10 := frozen_later hst4 R_l R_f10
            replace R_l := Nat.lt_of_lt_of_le R_l hst4.size
            replace hS := hS.later hst4
            clear hst4
            have KX_0 := cell_on X_0
            have KX_1 := cell_on X_1
            have KX_2 := cell_on X_2
            have KX_3 := cell_on X_3
            have KX_4 := cell_on X_4
            have KX_5 := cell_on X_5
            have KX_6 := cell_on X_6
            have KX_7 := cell_on X_7
            have KX_8 := cell_on X_8
            have KX_9 := cell_on X_9
            have KX_10 := cell_on X_10
            have KP_0 := cell_on P_0
            have KP_1 := cell_on P_1
            have z4 := R_l
            refine wp_region_on_spec_tail [(2, [], fun _ => VOwn w4.heap.size 46 2 ps.length (cel ps)), (5, [], fun _ => VNewP [.string n, .int .u32 q]), (6, [], fun _ => VOwn w4.heap.size 46 2 (ps.length + 1) (cel (ps.take k ++ (n, q) :: ps.drop k)))] [2, 5, 6] [6] [(2, []), (5, []), (6, [])] 7 (by kernel_rfl) (by kernel_rfl) rfl (by kernel_rfl) rfl (by kernel_rfl) ⟨fun _ => VOwn.last, fun _ => VNewP.last, fun _ => VOwn.last, trivial⟩ ?_
            try simp only [List.take_succ_cons, List.take_zero, List.drop_succ_cons, List.drop_zero]
            refine wpSpec_quiet 2 (by kernel_rfl) (by kernel_rfl) ?_
            simp only [List.take_succ_cons, List.take_zero, List.drop_succ_cons, List.drop_zero]
            repeat (go_big_quiet_step (fail))
            refine wpQuiet_nil ?_
            show wpSpec _ _ _ _ _ _ _ _ _ _ _
            refine wpSpec_at [] (VOwn w4.heap.size 46 2 ps.length (cel ps)) rfl (by first | rfl | (simp [viewS, Act.eval]; done)) rfl (by first | rfl | (simp [Region.wanted]; done)) ?_ rfl ?_
            · intro wq hq hfq
              clear hfq
              refine gives_call 51 _ _ #[.slice a ps.length c] rfl (by kernel_rfl) (by simp [Act.eval]) ((H_hcl.out _ (hS.later hq)).mono ?_)
              rintro e w' ⟨a', c', rfl, ho, hb⟩
              exact ⟨_, rfl, hb, _, _, rfl, ho.mono hq.size⟩
            rintro x2 ⟨_, ⟨a2, c2, rfl, _⟩⟩
            simp only [Act.put, List.setIfInBounds_toArray, List.set_cons_succ, List.set_cons_zero]
            refine wpSpec_quiet 2 (by kernel_rfl) (by kernel_rfl) ?_
            simp only [List.take_succ_cons, List.take_zero, List.drop_succ_cons, List.drop_zero]
            repeat (go_big_quiet_step (fail))
            refine wpQuiet_nil ?_
            show wpSpec _ _ _ _ _ _ _ _ _ _ _
            refine wpSpec_at [] (VNewP [.string n, .int .u32 q]) rfl (by first | rfl | (simp [viewS, Act.eval]; done)) rfl (by first | rfl | (simp [Region.wanted]; done)) ?_ rfl ?_
            · intro wq hq hfq
              clear hfq
              unfold Oper.gives; go_simp; exact ⟨(Below.refl _ _).alloc (Nat.le_refl _) _, _, _, rfl, Blk.newA wq _ _ _ [.string n, .int .u32 q] rfl rfl⟩
            rintro x5 ⟨_, ⟨vb, vc, rfl, _⟩⟩
            simp only [Act.put, List.setIfInBounds_toArray, List.set_cons_succ, List.set_cons_zero]
            refine wpSpec_atD [] (VOwn w4.heap.size 46 2 (ps.length + 1) (cel (ps.take k ++ (n, q) :: ps.drop k))) rfl (by first | rfl | (simp [viewS, Act.eval]; done)) rfl (by first | rfl | (simp [Region.wanted]; done)) ?_ rfl ?_
            · intro wq hq hfq
              have f2 := hfq 2 (by kernel_rfl)
              have f5 := hfq 5 (by kernel_rfl)
              simp only [upd, Nat.beq, cond] at f2 f5
              clear hfq
              obtain ⟨a2', c2', e2, k2⟩ := f2
              cases e2
              obtain ⟨vb', vc', e5, k5⟩ := f5
              cases e5
              refine gives_call 50 _ _ #[.slice a2 ps.length c2, .int .i64 k, .slice (some ⟨vb, 0, none⟩) 1 vc] rfl (by kernel_rfl) (by simp [Act.eval]) ((H_hins.out _ _ _ _ _ _ k2 k5 hq.size).mono ?_)
              rintro e w' ⟨a', c', rfl, ho, hb⟩
              exact ⟨_, rfl, hb, _, _, rfl, ho⟩
            rintro x6 ⟨_, ⟨a6, c6, rfl, _⟩⟩
            simp only [Act.put, List.setIfInBounds_toArray, List.set_cons_succ, List.set_cons_zero]
            intro w5 hc5 hfq
            have f6 := hfq 6
            simp only [upd, Nat.beq, cond] at f6
            clear hfq
            clear KX_0 KX_1 KX_2 KX_3 KX_4 KX_5 KX_6 KX_7 KX_8 KX_9 KX_10 KP_0 KP_1
            have hb5 : Below w.heap.size w w5 := bchain (by repeat' (first | with_reducible exact hb4 | with_reducible refine Below.drew ?_ | with_reducible refine below_drewN ?_ _ | with_reducible refine Below.alloc ?_ (by have := hb4.size; first | (simp; done) | (simp; omega) | omega) _ | with_reducible refine Below.setCell ?_ (by first | (simp; done) | (simp; omega) | omega) _)) hc5
            have hst5 : Below w4.heap.size w4 w5 := bchain (by repeat' (first | with_reducible exact Below.refl _ _ | with_reducible refine Below.drew ?_ | with_reducible refine below_drewN ?_ _ | with_reducible refine Below.alloc ?_ (by first | (simp; done) | (simp; omega) | omega) _ | with_reducible refine Below.setCell ?_ (by first | (simp; done) | (simp; omega) | omega) _)) hc5
            replace X_0 := cell_later hst5 X_0
            replace X_1 := cell_later hst5 X_1
            replace X_2 := cell_later hst5 X_2
            replace X_3 := cell_later hst5 X_3
            replace X_4 := cell_later hst5 X_4
            replace X_5 := cell_later hst5 X_5
            replace X_6 := cell_later hst5 X_6
            replace X_7 := cell_later hst5 X_7
            replace X_8 := cell_later hst5 X_8
            replace X_9 := cell_later hst5 X_9
            replace X_10 := cell_later hst5 X_10
            replace X_f0 := frozen_later hst5 X_l X_f0
            replace X_f1 := frozen_later hst5 X_l X_f1
            replace X_f2 := frozen_later hst5 X_l X_f2
            replace X_f3 := frozen_later hst5 X_l X_f3
            replace X_f4 := frozen_later hst5 X_l X_f4
            replace X_f5 := frozen_later hst5 X_l X_f5
            replace X_f6 := frozen_later hst5 X_l X_f6
            replace X_f7 := frozen_later hst5 X_l X_f7
            replace X_f8 := frozen_later hst5 X_l X_f8
            replace X_f9 := frozen_later hst5 X_l X_f9
            replace X_f10 := frozen_later hst5 X_l X_f10
            replace X_l := Nat.lt_of_lt_of_le X_l hst5.size
            replace P_0 := cell_later hst5 P_0
            replace P_1 := cell_later hst5 P_1
            replace P_l := Nat.lt_of_lt_of_le P_l hst5.size
            replace R_0 := cell_later hst5 R_0
            replace R_1 := cell_later hst5 R_1
            replace R_2 := cell_later hst5 R_2
            replace R_3 := cell_later hst5 R_3
            replace R_4 := cell_later hst5 R_4
            replace R_5 := cell_later hst5 R_5
            replace R_6 := cell_later hst5 R_6
            replace R_7 := cell_later hst5 R_7
            replace R_8 := cell_later hst5 R_8
            replace R_9 := cell_later hst5 R_9
            replace R_10 := cell_later hst5 R_10
            replace R_f0 := frozen_later hst5 R_l R_f0
            replace R_f1 := frozen_later hst5 R_l R_f1
            replace R_f2 := frozen_later hst5 R_l R_f2
            replace R_f3 := frozen_later hst5 R_l R_f3
            replace R_f4 := frozen_later hst5 R_l R_f4
            replace R_f5 := frozen_later hst5 R_l R_f5
            replace R_f6 := frozen_later hst5 R_l R_f6
            replace R_f7 := frozen_later hst5 R_l R_f7
            replace R_f8 := frozen_later hst5 R_l R_f8
            replace R_f9 := frozen_later hst5 R_l R_f9
            replace R_f10 := frozen_later hst5 R_l R_f10
            replace R_l := Nat.lt_of_lt_of_le R_l hst5.size
            replace hS := hS.later hst5
            clear hst5
            obtain ⟨a6', c6', e6, k6⟩ := f6
            cases e6
            have p6 := k6.addr
            have kk := k6.cellsAt
            have p1 : ∀ ad, a6 = some ad → ad.block ≠ w.heap.size := fun ad e => by have := (p6 ad e).1; omega
            have p2 : ∀ ad, a6 = some ad → ad.block ≠ w.heap.size + 2 := fun ad e => by have := (p6 ad e).1; omega
            have hlen : (ps.take k ++ (n, q) :: ps.drop k).length = ps.length + 1 := by simp; omega
            clear p6 k6
            go_wp2_with fail
            refine bodyPost_ret (v := .tuple #[.agg #[.int .i64 l0, .int .i64 l1, .int .i64 l2, .int .i64 l3, .int .i64 l4, .int .i64 l5, .int .i64 l6, .int .i64 l7, .int .i64 l8, .int .u32 s, .slice a6 (ps.length + 1) c6], .int .i64 0]) (by simp [results, Tryd.results21, go_sem, *]) rfl ⟨RetS.of (r := ⟨(⟨l0, l1, l2, l3, l4, l5, l6, l7, l8⟩ : Lim), s, ps.take k ++ (n, q) :: ps.drop k, 0⟩) ⟨a6, c6, by
              show _ = Ending.returned (.tuple #[.agg #[.int .i64 l0, .int .i64 l1, .int .i64 l2, .int .i64 l3, .int .i64 l4, .int .i64 l5, .int .i64 l6, .int .i64 l7, .int .i64 l8, .int .u32 s, .slice a6 (ps.take k ++ (n, q) :: ps.drop k).length c6], .int .i64 0])
              rw [hlen], (by repeat' (first | with_reducible exact kk | with_reducible refine CellsAt.setFarG ?_ p2 _ | with_reducible refine CellsAt.setFarG ?_ p1 _ | with_reducible refine CellsAt.drewN ?_ _))⟩ H_hr2.out, (by repeat' (first | with_reducible exact hb5 | with_reducible refine Below.drew ?_ | with_reducible refine below_drewN ?_ _ | with_reducible refine Below.alloc ?_ (by have := hb5.size; first | (simp; done) | (simp; omega) | omega) _ | with_reducible refine Below.setCell ?_ (by first | (simp; done) | (simp; omega) | omega) _))⟩
  · have hr : whoR (pubK s) E ps q = (⟨#[]⟩, E) := by unfold whoR; rw [if_neg h0]
    have hr2 : zOut E = R := by rw [← hR]; unfold withR; rw [if_neg h0]
    have h6 : E ≠ 6 := by rcases chk_rng (⟨l0, l1, l2, l3, l4, l5, l6, l7, l8⟩ : Lim) s ps with h | h | h | h | h | h <;> omega
    have b1 : (E != 0) = true := bne_iff_ne.2 h0
    have b2 : (E != 6) = true := bne_iff_ne.2 h6
    simp only [hr] at hwho
    have H_hr := Box.mk hr
    have H_hR := Box.mk hR
    have H_hE := Box.mk hE
    have H_hr2 := Box.mk hr2
    have H_hwho := Box.mk hwho
    clear hr hR hE hr2 hwho
    go_enter Tryd.func21, Tryd.ntmps21
    have hb0 := Below.refl w.heap.size w
    go_wp2_with fail
    with_reducible refine (H_hwho.out _ (((hS.alloc _).alloc _).alloc _)).mono ?_
    rintro e w1 ⟨rfl, hc1⟩
    have hb1 : Below w.heap.size w w1 := bchain (by repeat' (first | with_reducible exact hb0 | with_reducible refine Below.drew ?_ | with_reducible refine below_drewN ?_ _ | with_reducible refine Below.alloc ?_ (by have := hb0.size; first | (simp; done) | (simp; omega) | omega) _ | with_reducible refine Below.setCell ?_ (by first | (simp; done) | (simp; omega) | omega) _)) hc1
    have hst1 : Below w.heap.size w w1 := bchain (by repeat' (first | with_reducible exact Below.refl _ _ | with_reducible refine Below.drew ?_ | with_reducible refine below_drewN ?_ _ | with_reducible refine Below.alloc ?_ (by first | (simp; done) | (simp; omega) | omega) _ | with_reducible refine Below.setCell ?_ (by first | (simp; done) | (simp; omega) | omega) _)) hc1
    have X_0 : w1.cell? ⟨w.heap.size, 0, none⟩ = some (.int .i64 l0) := (hc1.cell (p := ⟨w.heap.size, 0, none⟩) (by first | (simp; done) | (simp; omega))).trans (by first | (simp; done) | go_simp)
    have X_1 : w1.cell? ⟨w.heap.size, 1, none⟩ = some (.int .i64 l1) := (hc1.cell (p := ⟨w.heap.size, 1, none⟩) (by first | (simp; done) | (simp; omega))).trans (by first | (simp; done) | go_simp)
    have X_2 : w1.cell? ⟨w.heap.size, 2, none⟩ = some (.int .i64 l2) := (hc1.cell (p := ⟨w.heap.size, 2, none⟩) (by first | (simp; done) | (simp; omega))).trans (by first | (simp; done) | go_simp)
    have X_3 : w1.cell? ⟨w.heap.size, 3, none⟩ = some (.int .i64 l3) := (hc1.cell (p := ⟨w.heap.size, 3, none⟩) (by first | (simp; done) | (simp; omega))).trans (by first | (simp; done) | go_simp)
    have X_4 : w1.cell? ⟨w.heap.size, 4, none⟩ = some (.int .i64 l4) := (hc1.cell (p := ⟨w.heap.size, 4, none⟩) (by first | (simp; done) | (simp; omega))).trans (by first | (simp; done) | go_simp)
    have X_5 : w1.cell? ⟨w.heap.size, 5, none⟩ = some (.int .i64 l5) := (hc1.cell (p := ⟨w.heap.size, 5, none⟩) (by first | (simp; done) | (simp; omega))).trans (by first | (simp; done) | go_simp)
    have X_6 : w1.cell? ⟨w.heap.size, 6, none⟩ = some (.int .i64 l6) := (hc1.cell (p := ⟨w.heap.size, 6, none⟩) (by first | (simp; done) | (simp; omega))).trans (by first | (simp; done) | go_simp)
    have X_7 : w1.cell? ⟨w.heap.size, 7, none⟩ = some (.int .i64 l7) := (hc1.cell (p := ⟨w.heap.size, 7, none⟩) (by first | (simp; done) | (simp; omega))).trans (by first | (simp; done) | go_simp)
    have X_8 : w1.cell? ⟨w.heap.size, 8, none⟩ = some (.int .i64 l8) := (hc1.cell (p := ⟨w.heap.size, 8, none⟩) (by first | (simp; done) | (simp; omega))).trans (by first | (simp; done) | go_simp)
    have X_9 : w1.cell? ⟨w.heap.size, 9, none⟩ = some (.int .u32 s) := (hc1.cell (p := ⟨w.heap.size, 9, none⟩) (by first | (simp; done) | (simp; omega))).trans (by first | (simp; done) | go_simp)
    have X_10 : w1.cell? ⟨w.heap.size, 10, none⟩ = some (.slice a ps.length c) := (hc1.cell (p := ⟨w.heap.size, 10, none⟩) (by first | (simp; done) | (simp; omega))).trans (by first | (simp; done) | go_simp)
    have X_f0 : w1.frozen? ⟨w.heap.size, 0, none⟩ = false := (hc1.frozen (p := ⟨w.heap.size, 0, none⟩) (by first | (simp; done) | (simp; omega))).trans (by first | (simp; done) | go_simp)
    have X_f1 : w1.frozen? ⟨w.heap.size, 1, none⟩ = false := (hc1.frozen (p := ⟨w.heap.size, 1, none⟩) (by first | (simp; done) | (simp; omega))).trans (by first | (simp; done) | go_simp)
    have X_f2 : w1.frozen? ⟨w.heap.size, 2, none⟩ = false := (hc1.frozen (p := ⟨w.heap.size, 2, none⟩) (by first | (simp; done) | (simp; omega))).trans (by first | (simp; done) | go_simp)
    have X_f3 : w1.frozen? ⟨w.heap.size, 3, none⟩ = false := (hc1.frozen (p := ⟨w.heap.size, 3, none⟩) (by first | (simp; done) | (simp; omega))).trans (by first | (simp; done) | go_simp)
    have X_f4 : w1.frozen? ⟨w.heap.size, 4, none⟩ = false := (hc1.frozen (p := ⟨w.heap.size, 4, none⟩) (by first | (simp; done) | (simp; omega))).trans (by first | (simp; done) | go_simp)
    have X_f5 : w1.frozen? ⟨w.heap.size, 5, none⟩ = false := (hc1.frozen (p := ⟨w.heap.size, 5, none⟩) (by first | (simp; done) | (simp; omega))).trans (by first | (simp; done) | go_simp)
    have X_f6 : w1.frozen? ⟨w.heap.size, 6, none⟩ = false := (hc1.frozen (p := ⟨w.heap.size, 6, none⟩) (by first | (simp; done) | (simp; omega))).trans (by first | (simp; done) | go_simp)
    have X_f7 : w1.frozen? ⟨w.heap.size, 7, none⟩ = false := (hc1.frozen (p := ⟨w.heap.size, 7, none⟩) (by first | (simp; done) | (simp; omega))).trans (by first | (simp; done) | go_simp)
    have X_f8 : w1.frozen? ⟨w.heap.size, 8, none⟩ = false := (hc1.frozen (p := ⟨w.heap.size, 8, none⟩) (by first | (simp; done) | (simp; omega))).trans (by first | (simp; done) | go_simp)
    have X_f9 : w1.frozen? ⟨w.heap.size, 9, none⟩ = false := (hc1.frozen (p := ⟨w.heap.size, 9, none⟩) (by first | (simp; done) | (simp; omega))).trans (by first | (simp; done) | go_simp)
    have X_f10 : w1.frozen? ⟨w.heap.size, 10, none⟩ = false := (hc1.frozen (p := ⟨w.heap.size, 10, none⟩) (by first | (simp; done) | (simp; omega))).trans (by first | (simp; done) | go_simp)
    have X_l : w.heap.size < w1.heap.size := Nat.lt_of_lt_of_le (by first | (simp; done) | (simp; omega)) hc1.size
    have P_0 : w1.cell? ⟨w.heap.size + 1, 0, none⟩ = some (.string n) := (hc1.cell (p := ⟨w.heap.size + 1, 0, none⟩) (by first | (simp; done) | (simp; omega))).trans (by first | (simp; done) | go_simp)
    have P_1 : w1.cell? ⟨w.heap.size + 1, 1, none⟩ = some (.int .u32 q) := (hc1.cell (p := ⟨w.heap.size + 1, 1, none⟩) (by first | (simp; done) | (simp; omega))).trans (by first | (simp; done) | go_simp)
    have P_l : w.heap.size + 1 < w1.heap.size := Nat.lt_of_lt_of_le (by first | (simp; done) | (simp; omega)) hc1.size
    have R_0 : w1.cell? ⟨w.heap.size + 2, 0, none⟩ = some (.int .i64 0) := (hc1.cell (p := ⟨w.heap.size + 2, 0, none⟩) (by first | (simp; done) | (simp; omega))).trans (by first | (simp; done) | go_simp)
    have R_1 : w1.cell? ⟨w.heap.size + 2, 1, none⟩ = some (.int .i64 0) := (hc1.cell (p := ⟨w.heap.size + 2, 1, none⟩) (by first | (simp; done) | (simp; omega))).trans (by first | (simp; done) | go_simp)
    have R_2 : w1.cell? ⟨w.heap.size + 2, 2, none⟩ = some (.int .i64 0) := (hc1.cell (p := ⟨w.heap.size + 2, 2, none⟩) (by first | (simp; done) | (simp; omega))).trans (by first | (simp; done) | go_simp)
    have R_3 : w1.cell? ⟨w.heap.size + 2, 3, none⟩ = some (.int .i64 0) := (hc1.cell (p := ⟨w.heap.size + 2, 3, none⟩) (by first | (simp; done) | (simp; omega))).trans (by first | (simp; done) | go_simp)
    have R_4 : w1.cell? ⟨w.heap.size + 2, 4, none⟩ = some (.int .i64 0) := (hc1.cell (p := ⟨w.heap.size + 2, 4, none⟩) (by first | (simp; done) | (simp; omega))).trans (by first | (simp; done) | go_simp)
    have R_5 : w1.cell? ⟨w.heap.size + 2, 5, none⟩ = some (.int .i64 0) := (hc1.cell (p := ⟨w.heap.size + 2, 5, none⟩) (by first | (simp; done) | (simp; omega))).trans (by first | (simp; done) | go_simp)
    have R_6 : w1.cell? ⟨w.heap.size + 2, 6, none⟩ = some (.int .i64 0) := (hc1.cell (p := ⟨w.heap.size + 2, 6, none⟩) (by first | (simp; done) | (simp; omega))).trans (by first | (simp; done) | go_simp)
    have R_7 : w1.cell? ⟨w.heap.size + 2, 7, none⟩ = some (.int .i64 0) := (hc1.cell (p := ⟨w.heap.size + 2, 7, none⟩) (by first | (simp; done) | (simp; omega))).trans (by first | (simp; done) | go_simp)
    have R_8 : w1.cell? ⟨w.heap.size + 2, 8, none⟩ = some (.int .i64 0) := (hc1.cell (p := ⟨w.heap.size + 2, 8, none⟩) (by first | (simp; done) | (simp; omega))).trans (by first | (simp; done) | go_simp)
    have R_9 : w1.cell? ⟨w.heap.size + 2, 9, none⟩ = some (.int .u32 0) := (hc1.cell (p := ⟨w.heap.size + 2, 9, none⟩) (by first | (simp; done) | (simp; omega))).trans (by first | (simp; done) | go_simp)
    have R_10 : w1.cell? ⟨w.heap.size + 2, 10, none⟩ = some (.slice none 0 0) := (hc1.cell (p := ⟨w.heap.size + 2, 10, none⟩) (by first | (simp; done) | (simp; omega))).trans (by first | (simp; done) | go_simp)
    have R_f0 : w1.frozen? ⟨w.heap.size + 2, 0, none⟩ = false := (hc1.frozen (p := ⟨w.heap.size + 2, 0, none⟩) (by first | (simp; done) | (simp; omega))).trans (by first | (simp; done) | go_simp)
    have R_f1 : w1.frozen? ⟨w.heap.size + 2, 1, none⟩ = false := (hc1.frozen (p := ⟨w.heap.size + 2, 1, none⟩) (by first | (simp; done) | (simp; omega))).trans (by first | (simp; done) | go_simp)
    have R_f2 : w1.frozen? ⟨w.heap.size + 2, 2, none⟩ = false := (hc1.frozen (p := ⟨w.heap.size + 2, 2, none⟩) (by first | (simp; done) | (simp; omega))).trans (by first | (simp; done) | go_simp)
    have R_f3 : w1.frozen? ⟨w.heap.size + 2, 3, none⟩ = false := (hc1.frozen (p := ⟨w.heap.size + 2, 3, none⟩) (by first | (simp; done) | (simp; omega))).trans (by first | (simp; done) | go_simp)
    have R_f4 : w1.frozen? ⟨w.heap.size + 2, 4, none⟩ = false := (hc1.frozen (p := ⟨w.heap.size + 2, 4, none⟩) (by first | (simp; done) | (simp; omega))).trans (by first | (simp; done) | go_simp)
    have R_f5 : w1.frozen? ⟨w.heap.size + 2, 5, none⟩ = false := (hc1.frozen (p := ⟨w.heap.size + 2, 5, none⟩) (by first | (simp; done) | (simp; omega))).trans (by first | (simp; done) | go_simp)
    have R_f6 : w1.frozen? ⟨w.heap.size + 2, 6, none⟩ = false := (hc1.frozen (p := ⟨w.heap.size + 2, 6, none⟩) (by first | (simp; done) | (simp; omega))).trans (by first | (simp; done) | go_simp)
    have R_f7 : w1.frozen? ⟨w.heap.size + 2, 7, none⟩ = false := (hc1.frozen (p := ⟨w.heap.size + 2, 7, none⟩) (by first | (simp; done) | (simp; omega))).trans (by first | (simp; done) | go_simp)
    have R_f8 : w1.frozen? ⟨w.heap.size + 2, 8, none⟩ = false := (hc1.frozen (p := ⟨w.heap.size + 2, 8, none⟩) (by first | (simp; done) | (simp; omega))).trans (by first | (simp; done) | go_simp)
    have R_f9 : w1.frozen? ⟨w.heap.size + 2, 9, none⟩ = false := (hc1.frozen (p := ⟨w.heap.size + 2, 9, none⟩) (by first | (simp; done) | (simp; omega))).trans (by first | (simp; done) | go_simp)
    have R_f10 : w1.frozen? ⟨w.heap.size + 2, 10, none⟩ = false := (hc1.frozen (p := ⟨w.heap.size + 2, 10, none⟩) (by first | (simp; done) | (simp; omega))).trans (by first | (simp; done) | go_simp)
    have R_l : w.heap.size + 2 < w1.heap.size := Nat.lt_of_lt_of_le (by first | (simp; done) | (simp; omega)) hc1.size
    replace hS := hS.later hst1
    clear hst1
    clear hc1 hb0
    go_wp2_with fail
    refine bodyPost_ret (v := .tuple #[.agg #[.int .i64 0, .int .i64 0, .int .i64 0, .int .i64 0, .int .i64 0, .int .i64 0, .int .i64 0, .int .i64 0, .int .i64 0, .int .u32 0, .slice none 0 0], .int .i64 E]) (by simp [results, Tryd.results21, go_sem, *]) rfl ⟨RetS.of (r := zOut E) ⟨none, 0, rfl, .inl rfl⟩ H_hr2.out, (by repeat' (first | with_reducible exact hb1 | with_reducible refine Below.drew ?_ | with_reducible refine below_drewN ?_ _ | with_reducible refine Below.alloc ?_ (by have := hb1.size; first | (simp; done) | (simp; omega) | omega) _ | with_reducible refine Below.setCell ?_ (by first | (simp; done) | (simp; omega) | omega) _))⟩

end Go.Proofs.YthdldmkeoglflaaDoor
