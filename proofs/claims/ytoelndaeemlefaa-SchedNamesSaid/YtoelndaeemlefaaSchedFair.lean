/- What the program's Fair returns. -/
import Derived.Test.YtoelndaeemlefaaSchedRound
import Derived.Test.YtoelndaeemlefaaSchedFairP
import Derived.Deep.OwnRows
import Derived.Laws.OwnMore
namespace Go.Proofs.Ytoelndaeemlefaa
set_option linter.unusedSimpArgs false
set_option linter.unusedVariables false
set_option linter.unnecessarySimpa false
open Go.RowKit

theorem made_own (w : World) (n base : Nat) (hb : base ≤ w.heap.size) (hn : n ≤ maxLen) : OwnX (w.alloc (.cells (madeCells #[.int .i64 0] n) 3)) base 3 1 (.slice (some ⟨w.heap.size, 0, none⟩) n n) n ((List.replicate n (0 : Int)).map (Value.int .i64)) := by
  have := OwnX.made w (List.replicate n (.int .i64 0)) base 3 n 1 hb hn (by simp)
  rw [← toList_madeCells_one, Array.toArray_toList] at this
  rw [List.map_replicate, ← toList_madeCells_one]
  exact this

theorem wt_start {l a ps : List Int} {k j W : Nat} (hW : 1 ≤ W) (hj : j = 0) : wt l a ps k j < W := by subst hj; simp [wt]; omega
/-- Behind one task of a pick. -/
theorem wait_step {l a ps wv : List Int} {k q len : Nat} {v : Int} (hw : wv.length = len) (hq : q < len) (h : ∀ r, r < len → g wv r = if r < q then (wt l a ps r (k + 1) : Int) else (wt l a ps r k : Int)) (hv : v = (wt l a ps q (k + 1) : Int)) :
    ∀ r, r < len → g (wv.set q v) r = if r < q + 1 then (wt l a ps r (k + 1) : Int) else (wt l a ps r k : Int) := by
  intro r hr
  rw [g_set (by omega)]
  by_cases hqr : q = r
  · subst hqr; simp [hv]
  · rw [if_neg hqr, h r hr]
    by_cases h1 : r < q
    · rw [if_pos h1, if_pos (by omega)]
    · rw [if_neg h1, if_neg (by omega)]
theorem lt_step {p : Nat → Prop} {q : Nat} (h : ∀ r, r < q → p r) (hq : p q) : ∀ r, r < q + 1 → p r := by
  intro r hr
  by_cases h1 : r < q
  · exact h r h1
  · obtain rfl : r = q := by omega
    exact hq

set_option maxHeartbeats 40000000 in
theorem fair_any (l a ps : List Int) (win : Int) (la aa pa : Option Addr) (lc ac pc : Nat) (w : World) (hl : CellsAt w la (l.map (Value.int .i64))) (ha : CellsAt w aa (a.map (Value.int .i64))) (hp : CellsAt w pa (ps.map (Value.int .i64))) (hml : l.length ≤ maxLen) :
    Calls Try.prog 25 #[.agg #[.slice la l.length lc, .slice aa a.length ac], .slice pa ps.length pc, .int .i64 win] w fun e w' =>
      e = .returned (.tuple #[.bool (tkFair l a ps win).1, .int .i64 (tkFair l a ps win).2]) ∧ Below w.heap.size w w' := by
  rcases pkErr_cases l a ps with h8 | h8 | h8 | h8
  · by_cases n1 : win < 1
    · have he : (false, (2 : Int)) = tkFair l a ps win := by simp [tkFair, h8, n1]
      have H_h8 := hid h8
      have H_he := hid he
      clear h8 he
      go_enter Try.func25, Try.ntmps25
      have hb0 := Below.refl w.heap.size w
      go_wp2_with fail
      refine (pcheck_any l a ps la aa pa lc ac pc _ (hl.alloc _) (ha.alloc _) (hp.alloc _) hml).mono ?_
      rintro e w1 ⟨rfl, hc1⟩
      have hb1 : Below w.heap.size w w1 := bchain (by repeat' (first | with_reducible exact hb0 | with_reducible refine Below.drew ?_ | with_reducible refine below_drewN ?_ _ | with_reducible refine Below.alloc ?_ (by have := hb0.size; first | (simp; done) | (simp; omega) | omega) _ | with_reducible refine Below.setCell ?_ (by first | (simp; done) | (simp; omega) | omega) _)) hc1
      have P_0 : w1.cell? ⟨w.heap.size, 0, none⟩ = some (.slice la l.length lc) := (hc1.cell (p := ⟨w.heap.size, 0, none⟩) (by first | (simp; done) | (simp; omega))).trans (by first | (simp; done) | go_simp)
      have P_1 : w1.cell? ⟨w.heap.size, 1, none⟩ = some (.slice aa a.length ac) := (hc1.cell (p := ⟨w.heap.size, 1, none⟩) (by first | (simp; done) | (simp; omega))).trans (by first | (simp; done) | go_simp)
      have P_l : w.heap.size < w1.heap.size := Nat.lt_of_lt_of_le (by first | (simp; done) | (simp; omega)) hc1.size
      clear hc1 hb0
      rw [H_h8.out]
      go_wp2_with fail
      go_ret2
      exact ⟨by rw [← H_he.out]; rfl, (by repeat' (first | with_reducible exact hb1 | with_reducible refine Below.drew ?_ | with_reducible refine below_drewN ?_ _ | with_reducible refine Below.alloc ?_ (by have := hb1.size; first | (simp; done) | (simp; omega) | omega) _ | with_reducible refine Below.setCell ?_ (by first | (simp; done) | (simp; omega) | omega) _))⟩
    obtain ⟨W, rfl⟩ : ∃ W : Nat, win = W := ⟨win.toNat, by omega⟩
    have hW : 1 ≤ W := by omega
    have he : (fairB l a ps W, (0 : Int)) = tkFair l a ps W := by simp [tkFair, h8, n1]
    obtain ⟨h1, h2, h3⟩ := pkErr_ok h8
    obtain ⟨q1, q2, q3, _⟩ := tErr_ok h1
    have htv := TV.of h1
    have q5 : l.length ≤ 17592186044415 := by omega
    have q6 : 0 < a.length := by omega
    have k1 := fun w => run_make_row' (P := Try.prog) 22 3 (.int .i64 0) 8 Try.underlying22 info_i64 rfl .i64 .i64 l.length (by omega) (by omega) w
    have H_he := hid he
    have H_h8 := hid h8
    have H_h1 := hid h1
    have H_q3 := hid q3
    clear he h8 h1 q3
    go_enter Try.func25, Try.ntmps25
    have hb0 := Below.refl w.heap.size w
    go_wp2_with fail
    refine (pcheck_any l a ps la aa pa lc ac pc _ (hl.alloc _) (ha.alloc _) (hp.alloc _) hml).mono ?_
    rintro e w1 ⟨rfl, hc1⟩
    have hb1 : Below w.heap.size w w1 := bchain (by repeat' (first | with_reducible exact hb0 | with_reducible refine Below.drew ?_ | with_reducible refine below_drewN ?_ _ | with_reducible refine Below.alloc ?_ (by have := hb0.size; first | (simp; done) | (simp; omega) | omega) _ | with_reducible refine Below.setCell ?_ (by first | (simp; done) | (simp; omega) | omega) _)) hc1
    have P_0 : w1.cell? ⟨w.heap.size, 0, none⟩ = some (.slice la l.length lc) := (hc1.cell (p := ⟨w.heap.size, 0, none⟩) (by first | (simp; done) | (simp; omega))).trans (by first | (simp; done) | go_simp)
    have P_1 : w1.cell? ⟨w.heap.size, 1, none⟩ = some (.slice aa a.length ac) := (hc1.cell (p := ⟨w.heap.size, 1, none⟩) (by first | (simp; done) | (simp; omega))).trans (by first | (simp; done) | go_simp)
    have P_l : w.heap.size < w1.heap.size := Nat.lt_of_lt_of_le (by first | (simp; done) | (simp; omega)) hc1.size
    clear hc1 hb0
    rw [H_h8.out]
    replace hl := hl.later hb1
    replace ha := ha.later hb1
    have haa : ∀ ad, aa = some ad → ad.block < w1.heap.size := by
      obtain ⟨b, o, rfl, hr⟩ := ha.intG q6
      intro ad e
      cases e
      exact (hr 0 q6).2.1
    have hl1x := P_l
    go_wp2_with fail
    refine (cloneI_any la l.length lc l _ rfl hl q5).mono ?_
    rintro e w2 ⟨a1, c1, rfl, o1, hcx⟩
    have hc2 := hcx
    have hb2 : Below w.heap.size w w2 := bchain (by repeat' (first | with_reducible exact hb1 | with_reducible refine Below.drew ?_ | with_reducible refine below_drewN ?_ _ | with_reducible refine Below.alloc ?_ (by have := hb1.size; first | (simp; done) | (simp; omega) | omega) _ | with_reducible refine Below.setCell ?_ (by first | (simp; done) | (simp; omega) | omega) _)) hc2
    have hst2 : Below w1.heap.size w1 w2 := bchain (by repeat' (first | with_reducible exact Below.refl _ _ | with_reducible refine Below.drew ?_ | with_reducible refine below_drewN ?_ _ | with_reducible refine Below.alloc ?_ (by first | (simp; done) | (simp; omega) | omega) _ | with_reducible refine Below.setCell ?_ (by first | (simp; done) | (simp; omega) | omega) _)) hc2
    replace P_0 := cell_later hst2 P_0
    replace P_1 := cell_later hst2 P_1
    replace P_l := Nat.lt_of_lt_of_le P_l hst2.size
    clear hst2
    obtain ⟨lb, rfl, f1, f2, -⟩ := o1.at (by omega)
    have hP0 := P_l
    have tk0 := Tk.cloned (B := w.heap.size + 1) o1 ha haa (by have := hl1x; omega) (Nat.le_refl _) hcx
    clear hl haa
    go_wp2_with fail
    have F0 : FSt ((w2.alloc (.cells #[.slice (some ⟨lb, 0, none⟩) l.length c1, .slice aa a.length ac] 24)).alloc (.cells (madeCells #[.int .i64 0] l.length) 3)) (w.heap.size + 1) (w2.heap.size + 1) lb aa c1 l.length a l (List.replicate l.length 0) := by
      refine ⟨?_, ?_, by simp, rfl, by simp [AtLeast]⟩
      · have t1 := (tk0.alloc (.cells #[.slice (some ⟨lb, 0, none⟩) l.length c1, .slice aa a.length ac] 24)).later ((Below.refl _ _).alloc (Nat.le_refl _) (.cells (madeCells #[.int .i64 0] l.length) 3))
        simpa using t1
      · have t1 := made_own (w2.alloc (.cells #[.slice (some ⟨lb, 0, none⟩) l.length c1, .slice aa a.length ac] 24)) l.length (w2.heap.size + 1) (by simp) (by unfold maxLen; omega)
        simpa using t1
    have hbl : w.heap.size < lb := by omega
    have hz2 : w.heap.size ≤ w2.heap.size := by omega
    clear o1 tk0 hc2 hcx k1 ha hb1
    go_loopw [35] (fun i wr => ∃ k : Nat, k ≤ ps.length ∧ i = .int .i64 k ∧ Below w.heap.size w wr ∧ (wr.cell? ⟨w2.heap.size, 0, none⟩ = some (.slice (some ⟨lb, 0, none⟩) l.length c1) ∧ wr.cell? ⟨w2.heap.size, 1, none⟩ = some (.slice aa a.length ac)) ∧ ∃ wv, Hid (FSt wr (w.heap.size + 1) (w2.heap.size + 1) lb aa c1 l.length a (runAt a ps l k).1 wv) ∧ Hid (∀ q, q < l.length → g wv q = (wt l a ps q k : Int)) ∧ Hid (∀ q j, q < l.length → j ≤ k → wt l a ps q j < W)) (fun i _ => ps.length - (intOf i).toNat)
    case atStart => exact ⟨0, Nat.zero_le _, rfl, (by repeat' (first | with_reducible exact hb2 | with_reducible refine Below.drew ?_ | with_reducible refine below_drewN ?_ _ | with_reducible refine Below.alloc ?_ (by have := hb2.size; first | (simp; done) | (simp; omega) | omega) _ | with_reducible refine Below.setCell ?_ (by first | (simp; done) | (simp; omega) | omega) _)), ⟨by go_simp, by go_simp⟩, _, hid F0, hid (fun q hq => by simp [g, hq, wt]), hid (fun q j _ hj => wt_start hW (by omega))⟩
    case round =>
      clear F0 P_0 P_1 P_l hP0 hb2
      obtain ⟨k, hk, rfl, hbw, ⟨U_0, U_1⟩, wv, HF, Hv, HW⟩ := hrel
      by_cases hlt : k < ps.length
      · have hlt' : (k : Int) < (ps.length : Int) := by omega
        obtain ⟨b, o, rfl, hr⟩ := hp.intG (by omega)
        obtain ⟨d1, d2, d3⟩ := hr k hlt
        clear hr
        replace d1 := cell_later hbw d1
        obtain ⟨m, hm⟩ : ∃ m : Nat, g ps k = m := ⟨(g ps k).toNat, by have := h3 k hlt; omega⟩
        have hml2 : m < l.length := by have := (h3 k hlt).2; omega
        have hml' : (m : Int) < (l.length : Int) := by omega
        rw [hm] at d1
        have htvk := runAt_TV htv h3 (Nat.le_of_lt hlt)
        have H_hm := hid hm
        clear hm
        go_wp2_with fail
        go_loopw [41] (fun i wi => ∃ q : Nat, q ≤ l.length ∧ i = .int .i64 q ∧ Below w.heap.size w wi ∧ (wi.cell? ⟨w2.heap.size, 0, none⟩ = some (.slice (some ⟨lb, 0, none⟩) l.length c1) ∧ wi.cell? ⟨w2.heap.size, 1, none⟩ = some (.slice aa a.length ac)) ∧ ∃ wv, Hid (FSt wi (w.heap.size + 1) (w2.heap.size + 1) lb aa c1 l.length a (runAt a ps l k).1 wv) ∧ Hid (∀ r, r < l.length → g wv r = if r < q then (wt l a ps r (k + 1) : Int) else (wt l a ps r k : Int)) ∧ Hid (∀ r, r < q → wt l a ps r (k + 1) < W)) (fun i _ => l.length - (intOf i).toNat)
        case atStart => exact ⟨0, Nat.zero_le _, rfl, hbw, ⟨U_0, U_1⟩, wv, HF, hid (fun r hr => by rw [Hv.out r hr]; simp), hid (fun r hr => by omega)⟩
        case round =>
          clear U_0 U_1 HF Hv hbw
          obtain ⟨q, hq, rfl, hbw, ⟨U_0, U_1⟩, wv2, HF, Hv, Hq⟩ := hrel
          by_cases hlt2 : q < l.length
          · skip
            have hlt2' : (q : Int) < (l.length : Int) := by omega
            obtain ⟨v, hv⟩ : ∃ v : Nat, wt l a ps q k = v := ⟨_, rfl⟩
            have hvk := wt_le l a ps q k
            rw [hv] at hvk
            have F := HF.out
            clear HF
            obtain ⟨x1, x2⟩ := F.cellw hlt2
            have hgv : g wv2 q = v := by rw [Hv.out q hlt2, if_neg (by omega), hv]
            rw [hgv] at x1
            have hwl := F.wl
            have hll := F.ll
            have hU : w2.heap.size < wr.heap.size := by have := F.at_; unfold AtLeast at this; omega
            have hN : w2.heap.size + 1 < wr.heap.size := by have := F.at_; unfold AtLeast at this; omega
            have htk := F.tk.lt _ rfl
            have hmQ : q < (runAt a ps l k).1.length := by omega
            have H_hv := hid hv
            have H_hgv := hid hgv
            have H_hwl := hid hwl
            have H_hll := hid hll
            clear hv hgv hwl hll
            by_cases hqm : q = m
            · have hs : skip l a ps q k = false := by simp [skip, H_hm.out, hqm]
              have hwn := wt_no hs
              have hqi : ((q : Int) == (m : Int)) = true := by simp [hqm]
              have hWi : ¬ (W : Int) ≤ 0 := by omega
              have F2 := (F.setw hlt2 ((v : Int) + 1)).setw hlt2 0
              rw [List.set_set] at F2
              have H_hs := hid hs
              have H_hwn := hid hwn
              clear hs hwn
              clear hqm
              go_wp2_with fail
              go_roundw
              case rel => exact ⟨q + 1, by omega, by go_num, (by repeat' (first | with_reducible exact hbw | with_reducible refine Below.drew ?_ | with_reducible refine below_drewN ?_ _ | with_reducible refine Below.alloc ?_ (by have := hbw.size; first | (simp; done) | (simp; omega) | omega) _ | with_reducible refine Below.setCell ?_ (by first | (simp; done) | (simp; omega) | omega) _)), ⟨by go_simp, by go_simp⟩, _, hid F2, hid (wait_step H_hwl.out hlt2 Hv.out (by rw [H_hwn.out]; rfl)), hid (lt_step Hq.out (by rw [H_hwn.out]; omega))⟩
              case measure => simp [intOf]; omega
            · have hqi : ((q : Int) == (m : Int)) = false := by simp; omega
              have F1 := F.setw hlt2 ((v : Int) + 1)
              by_cases hcan : can (runAt a ps l k).1 a q = true
              · have hs : skip l a ps q k = true := by simp [skip, H_hm.out, hcan]; omega
                have hwn : wt l a ps q (k + 1) = v + 1 := by rw [wt_yes hs, H_hv.out]
                have H_hs := hid hs
                have H_hwn := hid hwn
                have H_hcan := hid hcan
                clear hs hwn hcan
                go_wp2_with fail
                refine (can_n l.length a.length (runAt a ps l k).1 a _ aa c1 ac q _ H_hll.out.symm rfl F1.tk.left F1.tk.aft hmQ htvk).mono ?_
                rintro e w21 ⟨rfl, hc21⟩
                rw [H_hcan.out]
                replace F1 := F1.later hc21
                have hz21 := hc21.size
                simp only [World.size_setCell] at hz21
                have hb21 : Below w.heap.size w w21 := bchain (hbw.setCell (by simp; omega) _) hc21
                replace U_0 := (hc21.cell (p := ⟨w2.heap.size, 0, none⟩) (by simp; omega)).trans (by go_simp : _ = some (Value.slice (some ⟨lb, 0, none⟩) l.length c1))
                replace U_1 := (hc21.cell (p := ⟨w2.heap.size, 1, none⟩) (by simp; omega)).trans (by go_simp : _ = some (Value.slice aa a.length ac))
                obtain ⟨y1, y2⟩ := F1.cellw hlt2
                rw [g_set (by rw [H_hwl.out]; exact hlt2), if_pos rfl] at y1
                have hN21 : w2.heap.size + 1 < w21.heap.size := by omega
                clear hc21 x1 x2
                by_cases hWv : W ≤ v + 1
                · have hWi : (W : Int) ≤ (v : Int) + 1 := by omega
                  have hfb : fairB l a ps W = false := fair_no hW (j := k + 1) (by omega) hlt2 (by rw [H_hwn.out]; exact hWv)
                  have H_hfb := hid hfb
                  clear hfb
                  go_wp2_with fail
                  go_ret2
                  exact ⟨by rw [← H_he.out, H_hfb.out]; rfl, (by repeat' (first | with_reducible exact hb21 | with_reducible refine Below.drew ?_ | with_reducible refine below_drewN ?_ _ | with_reducible refine Below.alloc ?_ (by have := hb21.size; first | (simp; done) | (simp; omega) | omega) _ | with_reducible refine Below.setCell ?_ (by first | (simp; done) | (simp; omega) | omega) _))⟩
                · have hWi : ¬ (W : Int) ≤ (v : Int) + 1 := by omega
                  go_wp2_with fail
                  go_roundw
                  case rel => exact ⟨q + 1, by omega, by go_num, (by repeat' (first | with_reducible exact hb21 | with_reducible refine Below.drew ?_ | with_reducible refine below_drewN ?_ _ | with_reducible refine Below.alloc ?_ (by have := hb21.size; first | (simp; done) | (simp; omega) | omega) _ | with_reducible refine Below.setCell ?_ (by first | (simp; done) | (simp; omega) | omega) _)), ⟨by go_simp, by go_simp⟩, _, hid F1, hid (wait_step H_hwl.out hlt2 Hv.out (by rw [H_hwn.out]; simp)), hid (lt_step Hq.out (by rw [H_hwn.out]; omega))⟩
                  case measure => simp [intOf]; omega
              · have hcan : can (runAt a ps l k).1 a q = false := by simpa using hcan
                have hs : skip l a ps q k = false := by simp [skip, hcan]
                have hwn := wt_no hs
                have hWi : ¬ (W : Int) ≤ 0 := by omega
                have H_hs := hid hs
                have H_hwn := hid hwn
                have H_hcan := hid hcan
                clear hs hwn hcan
                go_wp2_with fail
                refine (can_n l.length a.length (runAt a ps l k).1 a _ aa c1 ac q _ H_hll.out.symm rfl F1.tk.left F1.tk.aft hmQ htvk).mono ?_
                rintro e w21 ⟨rfl, hc21⟩
                rw [H_hcan.out]
                replace F1 := F1.later hc21
                have hz21 := hc21.size
                simp only [World.size_setCell] at hz21
                have hb21 : Below w.heap.size w w21 := bchain (hbw.setCell (by simp; omega) _) hc21
                replace U_0 := (hc21.cell (p := ⟨w2.heap.size, 0, none⟩) (by simp; omega)).trans (by go_simp : _ = some (Value.slice (some ⟨lb, 0, none⟩) l.length c1))
                replace U_1 := (hc21.cell (p := ⟨w2.heap.size, 1, none⟩) (by simp; omega)).trans (by go_simp : _ = some (Value.slice aa a.length ac))
                obtain ⟨y1, y2⟩ := F1.cellw hlt2
                rw [g_set (by rw [H_hwl.out]; exact hlt2), if_pos rfl] at y1
                have hN21 : w2.heap.size + 1 < w21.heap.size := by omega
                clear hc21 x1 x2
                have F2 := F1.setw hlt2 0
                rw [List.set_set] at F2
                go_wp2_with fail
                go_roundw
                case rel => exact ⟨q + 1, by omega, by go_num, (by repeat' (first | with_reducible exact hb21 | with_reducible refine Below.drew ?_ | with_reducible refine below_drewN ?_ _ | with_reducible refine Below.alloc ?_ (by have := hb21.size; first | (simp; done) | (simp; omega) | omega) _ | with_reducible refine Below.setCell ?_ (by first | (simp; done) | (simp; omega) | omega) _)), ⟨by go_simp, by go_simp⟩, _, hid F2, hid (wait_step H_hwl.out hlt2 Hv.out (by rw [H_hwn.out]; rfl)), hid (lt_step Hq.out (by rw [H_hwn.out]; omega))⟩
                case measure => simp [intOf]; omega
          · obtain rfl : q = l.length := by omega
            have F := HF.out
            clear HF
            have hll := F.ll
            have hmQ : m < (runAt a ps l k).1.length := by omega
            have hx2 : g (runAt a ps l k).1 m ≤ 60 := (htvk.nth m hmQ).2.1
            have hU : w2.heap.size < wr.heap.size := by have := F.at_; unfold AtLeast at this; omega
            have hne2 : w2.heap.size ≠ lb := by omega
            have hWn : ∀ q j, q < l.length → j ≤ k + 1 → wt l a ps q j < W := fun q j hq hj => by
              by_cases h : j ≤ k
              · exact HW.out q j hq h
              · obtain rfl : j = k + 1 := by omega
                exact Hq.out q hq
            have hvn : ∀ q, q < l.length → g wv2 q = (wt l a ps q (k + 1) : Int) := fun q hq => by rw [Hv.out q hq, if_pos hq]
            have HWn := hid hWn
            have Hvn := hid hvn
            clear hWn hvn Hv Hq HW
            have H_hll := hid hll
            clear hll
            by_cases hcan : can (runAt a ps l k).1 a m = true
            · have hx : 0 < g (runAt a ps l k).1 m := by simp only [can, Bool.and_eq_true, decide_eq_true_eq] at hcan; exact hcan.1
              have hrs := runAt_yes H_hm.out hcan
              have H_hcan := hid hcan
              have H_hrs := hid hrs
              clear hcan hrs
              go_wp2_with fail
              refine (can_n l.length a.length (runAt a ps l k).1 a _ aa c1 ac m _ H_hll.out.symm rfl F.tk.left F.tk.aft hmQ htvk).mono ?_
              rintro e w21 ⟨rfl, hc21⟩
              rw [H_hcan.out]
              replace F := F.later hc21
              have hz21 := hc21.size
              have hb21 : Below w.heap.size w w21 := bchain hbw hc21
              replace U_0 := cell_later hc21 U_0
              replace U_1 := cell_later hc21 U_1
              clear hc21
              obtain ⟨y1, y2, y3, y4⟩ := F.celll hml2
              have F2 := F.setl hml2 (g (runAt a ps l k).1 m - 1)
              have yl : lb < w21.heap.size := by omega
              go_wp2_with fail
              go_roundw
              case rel => exact ⟨k + 1, by omega, by go_num, (by repeat' (first | with_reducible exact hb21 | with_reducible refine Below.drew ?_ | with_reducible refine below_drewN ?_ _ | with_reducible refine Below.alloc ?_ (by have := hb21.size; first | (simp; done) | (simp; omega) | omega) _ | with_reducible refine Below.setCell ?_ (by first | (simp; done) | (simp; omega) | omega) _)), ⟨by go_simp, by go_simp⟩, wv2, hid (by rw [H_hrs.out]; exact F2), Hvn, HWn⟩
              case measure => simp [intOf]; omega
            · have hcan : can (runAt a ps l k).1 a m = false := by simpa using hcan
              have hrs := runAt_no H_hm.out hcan
              have H_hcan := hid hcan
              have H_hrs := hid hrs
              clear hcan hrs
              go_wp2_with fail
              refine (can_n l.length a.length (runAt a ps l k).1 a _ aa c1 ac m _ H_hll.out.symm rfl F.tk.left F.tk.aft hmQ htvk).mono ?_
              rintro e w21 ⟨rfl, hc21⟩
              rw [H_hcan.out]
              replace F := F.later hc21
              have hz21 := hc21.size
              have hb21 : Below w.heap.size w w21 := bchain hbw hc21
              replace U_0 := cell_later hc21 U_0
              replace U_1 := cell_later hc21 U_1
              clear hc21
              go_wp2_with fail
              go_roundw
              case rel => exact ⟨k + 1, by omega, by go_num, (by repeat' (first | with_reducible exact hb21 | with_reducible refine Below.drew ?_ | with_reducible refine below_drewN ?_ _ | with_reducible refine Below.alloc ?_ (by have := hb21.size; first | (simp; done) | (simp; omega) | omega) _ | with_reducible refine Below.setCell ?_ (by first | (simp; done) | (simp; omega) | omega) _)), ⟨by go_simp, by go_simp⟩, wv2, hid (by rw [H_hrs.out]; exact F), Hvn, HWn⟩
              case measure => simp [intOf]; omega
      · obtain rfl : k = ps.length := by omega
        have hfb : fairB l a ps W = true := fair_yes fun q j hq hj => HW.out q j hq hj
        have H_hfb := hid hfb
        clear hfb
        clear HW Hv
        go_wp2_with fail
        go_ret2
        exact ⟨by rw [← H_he.out, H_hfb.out]; rfl, (by repeat' (first | with_reducible exact hbw | with_reducible refine Below.drew ?_ | with_reducible refine below_drewN ?_ _ | with_reducible refine Below.alloc ?_ (by have := hbw.size; first | (simp; done) | (simp; omega) | omega) _ | with_reducible refine Below.setCell ?_ (by first | (simp; done) | (simp; omega) | omega) _))⟩
  · have he : (false, (2 : Int)) = tkFair l a ps win := by simp [tkFair, h8]
    have H_h8 := hid h8
    have H_he := hid he
    clear h8 he
    go_enter Try.func25, Try.ntmps25
    have hb0 := Below.refl w.heap.size w
    go_wp2_with fail
    refine (pcheck_any l a ps la aa pa lc ac pc _ (hl.alloc _) (ha.alloc _) (hp.alloc _) hml).mono ?_
    rintro e w1 ⟨rfl, hc1⟩
    have hb1 : Below w.heap.size w w1 := bchain (by repeat' (first | with_reducible exact hb0 | with_reducible refine Below.drew ?_ | with_reducible refine below_drewN ?_ _ | with_reducible refine Below.alloc ?_ (by have := hb0.size; first | (simp; done) | (simp; omega) | omega) _ | with_reducible refine Below.setCell ?_ (by first | (simp; done) | (simp; omega) | omega) _)) hc1
    have P_0 : w1.cell? ⟨w.heap.size, 0, none⟩ = some (.slice la l.length lc) := (hc1.cell (p := ⟨w.heap.size, 0, none⟩) (by first | (simp; done) | (simp; omega))).trans (by first | (simp; done) | go_simp)
    have P_1 : w1.cell? ⟨w.heap.size, 1, none⟩ = some (.slice aa a.length ac) := (hc1.cell (p := ⟨w.heap.size, 1, none⟩) (by first | (simp; done) | (simp; omega))).trans (by first | (simp; done) | go_simp)
    have P_l : w.heap.size < w1.heap.size := Nat.lt_of_lt_of_le (by first | (simp; done) | (simp; omega)) hc1.size
    clear hc1 hb0
    rw [H_h8.out]
    go_wp2_with fail
    go_ret2
    exact ⟨by rw [← H_he.out]; rfl, (by repeat' (first | with_reducible exact hb1 | with_reducible refine Below.drew ?_ | with_reducible refine below_drewN ?_ _ | with_reducible refine Below.alloc ?_ (by have := hb1.size; first | (simp; done) | (simp; omega) | omega) _ | with_reducible refine Below.setCell ?_ (by first | (simp; done) | (simp; omega) | omega) _))⟩
  · have he : (false, (4 : Int)) = tkFair l a ps win := by simp [tkFair, h8]
    have H_h8 := hid h8
    have H_he := hid he
    clear h8 he
    go_enter Try.func25, Try.ntmps25
    have hb0 := Below.refl w.heap.size w
    go_wp2_with fail
    refine (pcheck_any l a ps la aa pa lc ac pc _ (hl.alloc _) (ha.alloc _) (hp.alloc _) hml).mono ?_
    rintro e w1 ⟨rfl, hc1⟩
    have hb1 : Below w.heap.size w w1 := bchain (by repeat' (first | with_reducible exact hb0 | with_reducible refine Below.drew ?_ | with_reducible refine below_drewN ?_ _ | with_reducible refine Below.alloc ?_ (by have := hb0.size; first | (simp; done) | (simp; omega) | omega) _ | with_reducible refine Below.setCell ?_ (by first | (simp; done) | (simp; omega) | omega) _)) hc1
    have P_0 : w1.cell? ⟨w.heap.size, 0, none⟩ = some (.slice la l.length lc) := (hc1.cell (p := ⟨w.heap.size, 0, none⟩) (by first | (simp; done) | (simp; omega))).trans (by first | (simp; done) | go_simp)
    have P_1 : w1.cell? ⟨w.heap.size, 1, none⟩ = some (.slice aa a.length ac) := (hc1.cell (p := ⟨w.heap.size, 1, none⟩) (by first | (simp; done) | (simp; omega))).trans (by first | (simp; done) | go_simp)
    have P_l : w.heap.size < w1.heap.size := Nat.lt_of_lt_of_le (by first | (simp; done) | (simp; omega)) hc1.size
    clear hc1 hb0
    rw [H_h8.out]
    go_wp2_with fail
    go_ret2
    exact ⟨by rw [← H_he.out]; rfl, (by repeat' (first | with_reducible exact hb1 | with_reducible refine Below.drew ?_ | with_reducible refine below_drewN ?_ _ | with_reducible refine Below.alloc ?_ (by have := hb1.size; first | (simp; done) | (simp; omega) | omega) _ | with_reducible refine Below.setCell ?_ (by first | (simp; done) | (simp; omega) | omega) _))⟩
  · have he : (false, (8 : Int)) = tkFair l a ps win := by simp [tkFair, h8]
    have H_h8 := hid h8
    have H_he := hid he
    clear h8 he
    go_enter Try.func25, Try.ntmps25
    have hb0 := Below.refl w.heap.size w
    go_wp2_with fail
    refine (pcheck_any l a ps la aa pa lc ac pc _ (hl.alloc _) (ha.alloc _) (hp.alloc _) hml).mono ?_
    rintro e w1 ⟨rfl, hc1⟩
    have hb1 : Below w.heap.size w w1 := bchain (by repeat' (first | with_reducible exact hb0 | with_reducible refine Below.drew ?_ | with_reducible refine below_drewN ?_ _ | with_reducible refine Below.alloc ?_ (by have := hb0.size; first | (simp; done) | (simp; omega) | omega) _ | with_reducible refine Below.setCell ?_ (by first | (simp; done) | (simp; omega) | omega) _)) hc1
    have P_0 : w1.cell? ⟨w.heap.size, 0, none⟩ = some (.slice la l.length lc) := (hc1.cell (p := ⟨w.heap.size, 0, none⟩) (by first | (simp; done) | (simp; omega))).trans (by first | (simp; done) | go_simp)
    have P_1 : w1.cell? ⟨w.heap.size, 1, none⟩ = some (.slice aa a.length ac) := (hc1.cell (p := ⟨w.heap.size, 1, none⟩) (by first | (simp; done) | (simp; omega))).trans (by first | (simp; done) | go_simp)
    have P_l : w.heap.size < w1.heap.size := Nat.lt_of_lt_of_le (by first | (simp; done) | (simp; omega)) hc1.size
    clear hc1 hb0
    rw [H_h8.out]
    go_wp2_with fail
    go_ret2
    exact ⟨by rw [← H_he.out]; rfl, (by repeat' (first | with_reducible exact hb1 | with_reducible refine Below.drew ?_ | with_reducible refine below_drewN ?_ _ | with_reducible refine Below.alloc ?_ (by have := hb1.size; first | (simp; done) | (simp; omega) | omega) _ | with_reducible refine Below.setCell ?_ (by first | (simp; done) | (simp; omega) | omega) _))⟩

end Go.Proofs.Ytoelndaeemlefaa
