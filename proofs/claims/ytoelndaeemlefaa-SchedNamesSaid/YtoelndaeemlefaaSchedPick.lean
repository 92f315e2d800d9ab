/- What Pick returns; the reference's Run and Pick. -/
import Derived.Test.YtoelndaeemlefaaSchedRun
namespace Go.Proofs.Ytoelndaeemlefaa
set_option linter.unusedSimpArgs false
set_option linter.unusedVariables false
set_option linter.unnecessarySimpa false
open Go.RowKit

set_option maxHeartbeats 4000000 in
theorem pick_any (l a : List Int) (i : Int) (la aa : Option Addr) (lc ac : Nat) (w : World) (hl : CellsAt w la (l.map (Value.int .i64))) (ha : CellsAt w aa (a.map (Value.int .i64))) (hml : l.length ≤ maxLen) :
    Calls Try.prog 15 #[.agg #[.slice la l.length lc, .slice aa a.length ac], .int .i64 i] w fun e w' =>
      TkPick w' e (tkRun l a [i]) ∧ Below w.heap.size w w' := by
  go_enter Try.func15, Try.ntmps15
  have hb0 := Below.refl w.heap.size w
  go_wp2_with fail
  refine (run_any l a [i] la aa _ lc ac 1 _ (((hl.alloc _).alloc _).alloc _) (((ha.alloc _).alloc _).alloc _) (by simpa using cellsAt_one ((w.alloc _).alloc _) (.int .i64 i) 3) hml).mono ?_
  rintro e w1 ⟨⟨l1, lc1, a1, ac1, d1, dc1, rfl, k1, k2, k3, f1, f2, _⟩, hc1⟩
  have hb1 : Below w.heap.size w w1 := bchain (by repeat' (first | with_reducible exact hb0 | with_reducible refine Below.drew ?_ | with_reducible refine below_drewN ?_ _ | with_reducible refine Below.alloc ?_ (by have := hb0.size; first | (simp; done) | (simp; omega) | omega) _ | with_reducible refine Below.setCell ?_ (by first | (simp; done) | (simp; omega) | omega) _)) hc1
  have P_0 : w1.cell? ⟨w.heap.size, 0, none⟩ = some (.slice la l.length lc) := (hc1.cell (p := ⟨w.heap.size, 0, none⟩) (by first | (simp; done) | (simp; omega))).trans (by first | (simp; done) | go_simp)
  have P_1 : w1.cell? ⟨w.heap.size, 1, none⟩ = some (.slice aa a.length ac) := (hc1.cell (p := ⟨w.heap.size, 1, none⟩) (by first | (simp; done) | (simp; omega))).trans (by first | (simp; done) | go_simp)
  have P_l : w.heap.size < w1.heap.size := Nat.lt_of_lt_of_le (by first | (simp; done) | (simp; omega)) hc1.size
  have O_0 : w1.cell? ⟨(w.heap.size + 1), 0, none⟩ = some (.slice none 0 0) := (hc1.cell (p := ⟨(w.heap.size + 1), 0, none⟩) (by first | (simp; done) | (simp; omega))).trans (by first | (simp; done) | go_simp)
  have O_1 : w1.cell? ⟨(w.heap.size + 1), 1, none⟩ = some (.slice none 0 0) := (hc1.cell (p := ⟨(w.heap.size + 1), 1, none⟩) (by first | (simp; done) | (simp; omega))).trans (by first | (simp; done) | go_simp)
  have O_f0 : w1.frozen? ⟨(w.heap.size + 1), 0, none⟩ = false := (hc1.frozen (p := ⟨(w.heap.size + 1), 0, none⟩) (by first | (simp; done) | (simp; omega))).trans (by first | (simp; done) | go_simp)
  have O_f1 : w1.frozen? ⟨(w.heap.size + 1), 1, none⟩ = false := (hc1.frozen (p := ⟨(w.heap.size + 1), 1, none⟩) (by first | (simp; done) | (simp; omega))).trans (by first | (simp; done) | go_simp)
  have O_l : (w.heap.size + 1) < w1.heap.size := Nat.lt_of_lt_of_le (by first | (simp; done) | (simp; omega)) hc1.size
  clear hc1 hb0
  simp only [World.size_alloc] at f1 f2
  go_wp2_with fail
  have p1 : ∀ ad, l1 = some ad → ad.block ≠ w.heap.size + 1 := fun ad e => by have := f1 ad e; omega
  have p2 : ∀ ad, a1 = some ad → ad.block ≠ w.heap.size + 1 := fun ad e => by have := f2 ad e; omega
  refine bodyPost_ret (v := .tuple #[.agg #[.slice l1 (tkRun l a [i]).1.1.length lc1, .slice a1 (tkRun l a [i]).1.2.length ac1], .bool (decide (0 < (tkRun l a [i]).2.1.length)), .int .i64 (tkRun l a [i]).2.2]) (by simp [results, Try.results15, go_sem, *]) rfl ⟨⟨_, _, _, _, rfl, (by repeat' (first | with_reducible exact k1 | with_reducible refine CellsAt.setFarG ?_ ?_ _ | with_reducible refine CellsAt.alloc ?_ _ | with_reducible refine CellsAt.drew ?_ | with_reducible refine CellsAt.drewN ?_ _ | exact p1)), (by repeat' (first | with_reducible exact k2 | with_reducible refine CellsAt.setFarG ?_ ?_ _ | with_reducible refine CellsAt.alloc ?_ _ | with_reducible refine CellsAt.drew ?_ | with_reducible refine CellsAt.drewN ?_ _ | exact p2))⟩, (by repeat' (first | with_reducible exact hb1 | with_reducible refine Below.drew ?_ | with_reducible refine below_drewN ?_ _ | with_reducible refine Below.alloc ?_ (by have := hb1.size; first | (simp; done) | (simp; omega) | omega) _ | with_reducible refine Below.setCell ?_ (by first | (simp; done) | (simp; omega) | omega) _))⟩

set_option maxHeartbeats 4000000 in
theorem rrun_any (l a ps : List Int) (la aa pa : Option Addr) (lc ac pc : Nat) (w : World) (hl : CellsAt w la (l.map (Value.int .i64))) (ha : CellsAt w aa (a.map (Value.int .i64))) (hp : CellsAt w pa (ps.map (Value.int .i64))) (hml : l.length ≤ maxLen) :
    Calls Try.prog 20 #[.agg #[.slice la l.length lc, .slice aa a.length ac], .slice pa ps.length pc] w fun e w' =>
      TkRet3 w.heap.size w' e (tkRun l a ps) ∧ Below w.heap.size w w' := by
  obtain ⟨i0, hi, hz0, hz1, hz2⟩ := info_parts info_i64
  rcases pkErr_cases l a ps with h8 | h8 | h8 | h8
  · have he : ((((runAt a ps l ps.length).1, a), (runAt a ps l ps.length).2, 0) : (List Int × List Int) × List Int × Int) = tkRun l a ps := by simp [tkRun, h8]
    obtain ⟨h1, h2, h3⟩ := pkErr_ok h8
    obtain ⟨q1, q2, q3, _⟩ := tErr_ok h1
    have htv := TV.of h1
    have q4 : a.length ≤ 17592186044415 := by omega
    have q5 : l.length ≤ 17592186044415 := by omega
    have q6 : 0 < a.length := by omega
    have H_he := hid he
    have H_h8 := hid h8
    have H_h1 := hid h1
    have H_q3 := hid q3
    clear he h8 h1 q3
    go_enter Try.func20, Try.ntmps20
    have hb0 := Below.refl w.heap.size w
    go_wp2_with fail
    refine (rpicks_any l a ps la aa pa lc ac pc _ ((hl.alloc _).alloc _) ((ha.alloc _).alloc _) ((hp.alloc _).alloc _) hml).mono ?_
    rintro e w1 ⟨rfl, hc1⟩
    have hb1 : Below w.heap.size w w1 := bchain (by repeat' (first | with_reducible exact hb0 | with_reducible refine Below.drew ?_ | with_reducible refine below_drewN ?_ _ | with_reducible refine Below.alloc ?_ (by have := hb0.size; first | (simp; done) | (simp; omega) | omega) _ | with_reducible refine Below.setCell ?_ (by first | (simp; done) | (simp; omega) | omega) _)) hc1
    have P_0 : w1.cell? ⟨w.heap.size, 0, none⟩ = some (.slice la l.length lc) := (hc1.cell (p := ⟨w.heap.size, 0, none⟩) (by first | (simp; done) | (simp; omega))).trans (by first | (simp; done) | go_simp)
    have P_1 : w1.cell? ⟨w.heap.size, 1, none⟩ = some (.slice aa a.length ac) := (hc1.cell (p := ⟨w.heap.size, 1, none⟩) (by first | (simp; done) | (simp; omega))).trans (by first | (simp; done) | go_simp)
    have P_l : w.heap.size < w1.heap.size := Nat.lt_of_lt_of_le (by first | (simp; done) | (simp; omega)) hc1.size
    have O_0 : w1.cell? ⟨(w.heap.size + 1), 0, none⟩ = some (.slice none 0 0) := (hc1.cell (p := ⟨(w.heap.size + 1), 0, none⟩) (by first | (simp; done) | (simp; omega))).trans (by first | (simp; done) | go_simp)
    have O_1 : w1.cell? ⟨(w.heap.size + 1), 1, none⟩ = some (.slice none 0 0) := (hc1.cell (p := ⟨(w.heap.size + 1), 1, none⟩) (by first | (simp; done) | (simp; omega))).trans (by first | (simp; done) | go_simp)
    have O_f0 : w1.frozen? ⟨(w.heap.size + 1), 0, none⟩ = false := (hc1.frozen (p := ⟨(w.heap.size + 1), 0, none⟩) (by first | (simp; done) | (simp; omega))).trans (by first | (simp; done) | go_simp)
    have O_f1 : w1.frozen? ⟨(w.heap.size + 1), 1, none⟩ = false := (hc1.frozen (p := ⟨(w.heap.size + 1), 1, none⟩) (by first | (simp; done) | (simp; omega))).trans (by first | (simp; done) | go_simp)
    have O_l : (w.heap.size + 1) < w1.heap.size := Nat.lt_of_lt_of_le (by first | (simp; done) | (simp; omega)) hc1.size
    clear hc1 hb0
    rw [H_h8.out]
    replace hl := hl.later hb1
    replace ha := ha.later hb1
    go_upto_region 3 with fail
    go_cut [7] (fun s wx => ∃ B la' lc' aa' ac', s = .pointer (some ⟨B, 0, none⟩) ∧ Below w1.heap.size w1 wx ∧ (wx.cell? ⟨B, 0, none⟩ = some (.slice la' l.length lc') ∧ wx.cell? ⟨B, 1, none⟩ = some (.slice aa' a.length ac')) ∧ (∀ ad, la' = some ad → ad.block ≠ B) ∧ (∀ ad, aa' = some ad → w.heap.size + 2 ≤ ad.block) ∧ Tk wx (w.heap.size + 2) wx.heap.size la' aa' lc' l a)
    case first =>
      go_wp2_with fail
      refine (rtwin_any l a la aa lc ac _ hl ha q5 q4).mono ?_
      rintro e w2 ⟨l2, lc2, a2, ac2, rfl, k1, k2, kf, hc2⟩
      obtain ⟨t4, t5⟩ := kf q1 q6
      go_wp2_with fail
      go_meet
      refine ⟨_, l2, lc2, a2, ac2, rfl, hc2.alloc hc2.size _, ⟨by go_simp, by go_simp⟩, fun ad e => by have := t4.lt ad e; omega, fun ad e => by have := t5 ad e; omega, (t4.mono (by omega)).alloc _⟩
    case rest =>
      obtain ⟨B, la', lc', aa', ac', rfl, KX, ⟨U_0, U_1⟩, hne, hA, tk⟩ := hcut
      obtain ⟨lb, rfl, f1, f2, -⟩ := tk.at (by omega)
      have hb2 := bchain hb1 KX
      replace O_0 := (Below.cell (p := ⟨w.heap.size + 1, 0, none⟩) KX O_l).trans O_0
      replace O_1 := (Below.cell (p := ⟨w.heap.size + 1, 1, none⟩) KX O_l).trans O_1
      replace O_f0 := (Below.frozen (p := ⟨w.heap.size + 1, 0, none⟩) KX O_l).trans O_f0
      replace O_f1 := (Below.frozen (p := ⟨w.heap.size + 1, 1, none⟩) KX O_l).trans O_f1
      replace O_l := Nat.lt_of_lt_of_le O_l KX.size
      have hBN : B < wc.heap.size := by have := World.block_lt_of_cell? _ _ U_0; simpa using this
      have hne : lb ≠ B := hne _ rfl
      clear KX P_0 P_1 P_l hl ha hb1
      go_wp2_with fail
      go_loopw [8, 9] (fun did i wr => ∃ k : Nat, k ≤ ps.length ∧ i = .int .i64 k ∧ Below w.heap.size w wr ∧ AtLeast wc.heap.size wr ∧ (wr.cell? ⟨B, 0, none⟩ = some (.slice (some ⟨lb, 0, none⟩) l.length lc') ∧ wr.cell? ⟨B, 1, none⟩ = some (.slice aa' a.length ac')) ∧ ((wr.cell? ⟨w.heap.size + 1, 0, none⟩ = some (.slice none 0 0) ∧ wr.cell? ⟨w.heap.size + 1, 1, none⟩ = some (.slice none 0 0)) ∧ (wr.frozen? ⟨w.heap.size + 1, 0, none⟩ = false ∧ wr.frozen? ⟨w.heap.size + 1, 1, none⟩ = false)) ∧ Hid (Tk wr (w.heap.size + 2) wc.heap.size (some ⟨lb, 0, none⟩) aa' lc' (runAt a ps l k).1 a) ∧ ∃ da dc, did = .slice da (runAt a ps l k).2.length dc ∧ Hid (OwnX wr wc.heap.size 3 1 (.slice da (runAt a ps l k).2.length dc) (runAt a ps l k).2.length ((runAt a ps l k).2.map (Value.int .i64)))) (fun _ i _ => ps.length - (intOf i).toNat)
      case atStart => exact ⟨0, Nat.zero_le _, rfl, hb2, Nat.le_refl _, ⟨U_0, U_1⟩, ⟨⟨O_0, O_1⟩, O_f0, O_f1⟩, hid tk, none, 0, rfl, hid (OwnX.nil _ _ _ _)⟩
      case round =>
        clear U_0 U_1 O_0 O_1 O_f0 O_f1 tk hb2
        obtain ⟨k, hk, rfl, hbw, HN, ⟨U_0, U_1⟩, ⟨⟨O_0, O_1⟩, O_f0, O_f1⟩, Htk, da, dc, rfl, Hown⟩ := hrel
        by_cases hlt : k < ps.length
        · have hlt' : (k : Int) < (ps.length : Int) := by omega
          obtain ⟨b, o, rfl, hr⟩ := hp.intG (by omega)
          obtain ⟨c1, c2, c3⟩ := hr k hlt
          clear hr
          replace c1 := cell_later hbw c1
          obtain ⟨m, hm⟩ : ∃ m : Nat, g ps k = m := ⟨(g ps k).toNat, by have := h3 k hlt; omega⟩
          have hml : m < l.length := by have := (h3 k hlt).2; omega
          have hml' : (m : Int) < (l.length : Int) := by omega
          rw [hm] at c1
          have htvk := runAt_TV htv h3 (Nat.le_of_lt hlt)
          have hL := runAt_len a ps l k
          have hdl := runAt_did a ps l k
          have hU : B < wr.heap.size := Nat.lt_of_lt_of_le hBN HN
          have hO : w.heap.size + 1 < wr.heap.size := Nat.lt_of_lt_of_le O_l HN
          have Ho := Hown.out
          have T := Htk.out
          clear Hown Htk
          by_cases hcan : can (runAt a ps l k).1 a m = true
          · have hrs := runAt_yes hm hcan
            have hx : 0 < g (runAt a ps l k).1 m := by simp only [can, Bool.and_eq_true, decide_eq_true_eq] at hcan; exact hcan.1
            have hx2 : g (runAt a ps l k).1 m ≤ 60 := (htvk.nth m (by omega)).2.1
            have hmL : m < (runAt a ps l k).1.length := by omega
            have H_hcan := hid hcan
            have H_hrs := hid hrs
            have H_hL := hid hL
            have H_hm := hid hm
            clear hcan hrs hL hm
            have U_l := hU
            have O_lc := O_l
            have O_l := hO
            go_wp2_with fail
            go_region_held3 (fun w' => w'.cell? ⟨B, 0, none⟩ = some (.slice (some ⟨lb, 0, none⟩) l.length lc') ∧ w'.cell? ⟨B, 1, none⟩ = some (.slice aa' a.length ac') ∧ w'.cell? ⟨b, o + k, none⟩ = some (.int .i64 m)) (first | exact ⟨U_0, U_1, c1⟩ | exact ⟨cell_later hc11 U_0, cell_later hc11 U_1, cell_later hc11 c1⟩) ((go_at_call 30; refine (rcan_n l.length a.length _ a _ aa' lc' ac' m _ H_hL.out.symm rfl T.left.drew T.aft.drew hmL htvk).mono ?_; rintro e w11 ⟨rfl, hc11⟩))
            replace c1 := cell_later hc11 c1
            have hb11 : Below w.heap.size w w11 := bchain (by repeat' (first | with_reducible exact hbw | with_reducible refine Below.drew ?_ | with_reducible refine below_drewN ?_ _ | with_reducible refine Below.alloc ?_ (by have := hbw.size; first | (simp; done) | (simp; omega) | omega) _ | with_reducible refine Below.setCell ?_ (by first | (simp; done) | (simp; omega) | omega) _)) hc11
            have hst11 : Below wr.heap.size wr w11 := bchain (by repeat' (first | with_reducible exact Below.refl _ _ | with_reducible refine Below.drew ?_ | with_reducible refine below_drewN ?_ _ | with_reducible refine Below.alloc ?_ (by first | (simp; done) | (simp; omega) | omega) _ | with_reducible refine Below.setCell ?_ (by first | (simp; done) | (simp; omega) | omega) _)) hc11
            replace U_0 := cell_later hst11 U_0
            replace U_1 := cell_later hst11 U_1
            replace U_l := Nat.lt_of_lt_of_le U_l hst11.size
            replace O_0 := cell_later hst11 O_0
            replace O_1 := cell_later hst11 O_1
            replace O_f0 := frozen_later hst11 O_l O_f0
            replace O_f1 := frozen_later hst11 O_l O_f1
            replace O_l := Nat.lt_of_lt_of_le O_l hst11.size
            replace Ho := Ho.later hst11
            replace T := T.later hst11
            replace HN := HN.later hst11
            clear hst11
            try rw [H_hcan.out]
            obtain ⟨lb', e1, -, -, hcells⟩ := T.at (by omega)
            cases e1
            obtain ⟨x1, x2⟩ := hcells m hmL
            clear hcells
            have xl : lb < w11.heap.size := Nat.lt_of_lt_of_le f2 HN
            go_wp2_with fail
            go_region
            go_wp2_with (at_builtin; refine stop ?_)
            refine Stop.go ?_
            have T2 := T.set hmL (g (runAt a ps l k).1 m - 1)
            have Ho2 := Ho.setCell (a := ⟨lb, m, none⟩) f2 (.int .i64 (g (runAt a ps l k).1 m - 1))
            have HN' : wc.heap.size ≤ w11.heap.size := HN
            refine wpList_append_x _ rfl _ _ 22 rfl wc.heap.size 3 i0 (.int .i64 0) 1 8 Try.underlying22 hi hz0 hz1 hz2 rfl (by decide) _ _ _ rfl (Ho2.alloc _) (some ⟨w11.heap.size, 0, none⟩) 1 1 [.int .i64 k] rfl rfl (by have h9 := cellsAt_one (w11.setCell ⟨lb, m, none⟩ (.int .i64 (g (runAt a ps l k).1 m - 1))) (.int .i64 k) 3; simp only [World.size_setCell] at h9; exact h9) (oneCell_int _ _) (by unfold maxLen; omega) (by omega) (by simp; omega) ?_
            intro a3 c3 w12 hown3 hg hat
            have hb12 : Below w.heap.size w w12 := below_grownX (by repeat' (first | with_reducible exact hb11 | with_reducible refine Below.drew ?_ | with_reducible refine below_drewN ?_ _ | with_reducible refine Below.alloc ?_ (by have := hb11.size; first | (simp; done) | (simp; omega) | omega) _ | with_reducible refine Below.setCell ?_ (by first | (simp; done) | (simp; omega) | omega) _)) (base := w.heap.size) hg (by simp; omega) (fun q hq => by have := (Ho.lt q hq).1; omega)
            have hP : Below wc.heap.size (w11.setCell ⟨lb, m, none⟩ (.int .i64 (g (runAt a ps l k).1 m - 1))) w12 := below_grownX (by repeat' (first | with_reducible exact Below.refl _ _ | with_reducible refine Below.drew ?_ | with_reducible refine Below.alloc ?_ (by simp; omega) _)) hg (by simp; omega) (fun q hq => (Ho.lt q hq).1)
            have T3 := T2.below hP
            have HN3 : AtLeast wc.heap.size w12 := Nat.le_trans HN (by simpa using hP.size)
            have hneB : B ≠ lb := fun e => hne e.symm
            have hneO : w.heap.size + 1 ≠ lb := by omega
            replace U_0 := (hP.cell (p := ⟨B, 0, none⟩) hBN).trans (by go_simp : _ = some (Value.slice (some ⟨lb, 0, none⟩) l.length lc'))
            replace U_1 := (hP.cell (p := ⟨B, 1, none⟩) hBN).trans (by go_simp : _ = some (Value.slice aa' a.length ac'))
            replace O_0 := (hP.cell (p := ⟨w.heap.size + 1, 0, none⟩) O_lc).trans (by go_simp : _ = some (Value.slice none 0 0))
            replace O_1 := (hP.cell (p := ⟨w.heap.size + 1, 1, none⟩) O_lc).trans (by go_simp : _ = some (Value.slice none 0 0))
            replace O_f0 := (hP.frozen (p := ⟨w.heap.size + 1, 0, none⟩) O_lc).trans (by go_simp : _ = false)
            replace O_f1 := (hP.frozen (p := ⟨w.heap.size + 1, 1, none⟩) O_lc).trans (by go_simp : _ = false)
            clear hP
            go_wp2_with fail
            go_roundw
            case rel => exact ⟨k + 1, by omega, by go_num, hb12, HN3, ⟨U_0, U_1⟩, ⟨⟨O_0, O_1⟩, O_f0, O_f1⟩, hid (by rw [H_hrs.out]; exact T3), a3, c3, by rw [H_hrs.out]; simp, hid (by rw [H_hrs.out]; simpa using hown3)⟩
            case measure => simp [intOf]; omega
          · have hcan : can (runAt a ps l k).1 a m = false := by simpa using hcan
            have hrs := runAt_no hm hcan
            have hmL : m < (runAt a ps l k).1.length := by omega
            have H_hcan := hid hcan
            have H_hrs := hid hrs
            have H_hL := hid hL
            have H_hm := hid hm
            clear hcan hrs hL hm
            have U_l := hU
            have O_l := hO
            go_wp2_with fail
            go_region_held3 (fun w' => w'.cell? ⟨B, 0, none⟩ = some (.slice (some ⟨lb, 0, none⟩) l.length lc') ∧ w'.cell? ⟨B, 1, none⟩ = some (.slice aa' a.length ac') ∧ w'.cell? ⟨b, o + k, none⟩ = some (.int .i64 m)) (first | exact ⟨U_0, U_1, c1⟩ | exact ⟨cell_later hc11 U_0, cell_later hc11 U_1, cell_later hc11 c1⟩) ((go_at_call 30; refine (rcan_n l.length a.length _ a _ aa' lc' ac' m _ H_hL.out.symm rfl T.left.drew T.aft.drew hmL htvk).mono ?_; rintro e w11 ⟨rfl, hc11⟩))
            replace c1 := cell_later hc11 c1
            have hb11 : Below w.heap.size w w11 := bchain (by repeat' (first | with_reducible exact hbw | with_reducible refine Below.drew ?_ | with_reducible refine below_drewN ?_ _ | with_reducible refine Below.alloc ?_ (by have := hbw.size; first | (simp; done) | (simp; omega) | omega) _ | with_reducible refine Below.setCell ?_ (by first | (simp; done) | (simp; omega) | omega) _)) hc11
            have hst11 : Below wr.heap.size wr w11 := bchain (by repeat' (first | with_reducible exact Below.refl _ _ | with_reducible refine Below.drew ?_ | with_reducible refine below_drewN ?_ _ | with_reducible refine Below.alloc ?_ (by first | (simp; done) | (simp; omega) | omega) _ | with_reducible refine Below.setCell ?_ (by first | (simp; done) | (simp; omega) | omega) _)) hc11
            replace U_0 := cell_later hst11 U_0
            replace U_1 := cell_later hst11 U_1
            replace U_l := Nat.lt_of_lt_of_le U_l hst11.size
            replace O_0 := cell_later hst11 O_0
            replace O_1 := cell_later hst11 O_1
            replace O_f0 := frozen_later hst11 O_l O_f0
            replace O_f1 := frozen_later hst11 O_l O_f1
            replace O_l := Nat.lt_of_lt_of_le O_l hst11.size
            replace Ho := Ho.later hst11
            replace T := T.later hst11
            replace HN := HN.later hst11
            clear hst11
            try rw [H_hcan.out]
            go_wp2_with fail
            go_roundw
            case rel => exact ⟨k + 1, by omega, by go_num, hb11, HN, ⟨U_0, U_1⟩, ⟨⟨O_0, O_1⟩, O_f0, O_f1⟩, hid (by rw [H_hrs.out]; exact T), da, dc, by rw [H_hrs.out], hid (by rw [H_hrs.out]; exact Ho)⟩
            case measure => simp [intOf]; omega
        · obtain rfl : k = ps.length := by omega
          have hL := runAt_len a ps l ps.length
          have hU : B < wr.heap.size := Nat.lt_of_lt_of_le hBN HN
          have hO : w.heap.size + 1 < wr.heap.size := Nat.lt_of_lt_of_le O_l HN
          have H_hL := hid hL
          clear hL
          have T := (Htk.out.setNe (p := ⟨w.heap.size + 1, 0, none⟩) (fun ad e => by cases e; simp; omega) (fun ad e => by have := hA ad e; simp; omega) (.slice (some ⟨lb, 0, none⟩) l.length lc')).setNe (p := ⟨w.heap.size + 1, 1, none⟩) (fun ad e => by cases e; simp; omega) (fun ad e => by have := hA ad e; simp; omega) (.slice aa' a.length ac')
          have D := (Hown.out.setCell (a := ⟨w.heap.size + 1, 0, none⟩) O_l (.slice (some ⟨lb, 0, none⟩) l.length lc')).setCell (a := ⟨w.heap.size + 1, 1, none⟩) O_l (.slice aa' a.length ac')
          go_wp2_with fail
          exact bodyPost_ret (v := .tuple #[.agg #[.slice (some ⟨lb, 0, none⟩) l.length lc', .slice aa' a.length ac'], .slice da (runAt a ps l ps.length).2.length dc, .int .i64 0]) (by simp [results, Try.results20, go_sem, *]) rfl ⟨TkRet3.of ⟨some ⟨lb, 0, none⟩, lc', aa', ac', da, dc, by rw [H_hL.out], T.left, T.aft, D.cellsAt, fun ad e => by cases e; simp; omega, fun ad e => by have := hA ad e; omega, fun ad e => by have := (Hown.out.addr ad e).1; have := O_l; omega⟩ H_he.out, (by repeat' (first | with_reducible exact hbw | with_reducible refine Below.drew ?_ | with_reducible refine below_drewN ?_ _ | with_reducible refine Below.alloc ?_ (by have := hbw.size; first | (simp; done) | (simp; omega) | omega) _ | with_reducible refine Below.setCell ?_ (by first | (simp; done) | (simp; omega) | omega) _))⟩
  · have he : ((([], []), [], 2) : (List Int × List Int) × List Int × Int) = tkRun l a ps := by simp [tkRun, h8]
    have H_he := hid he
    have H_h8 := hid h8
    clear he h8
    go_enter Try.func20, Try.ntmps20
    have hb0 := Below.refl w.heap.size w
    go_wp2_with fail
    refine (rpicks_any l a ps la aa pa lc ac pc _ ((hl.alloc _).alloc _) ((ha.alloc _).alloc _) ((hp.alloc _).alloc _) hml).mono ?_
    rintro e w1 ⟨rfl, hc1⟩
    have hb1 : Below w.heap.size w w1 := bchain (by repeat' (first | with_reducible exact hb0 | with_reducible refine Below.drew ?_ | with_reducible refine below_drewN ?_ _ | with_reducible refine Below.alloc ?_ (by have := hb0.size; first | (simp; done) | (simp; omega) | omega) _ | with_reducible refine Below.setCell ?_ (by first | (simp; done) | (simp; omega) | omega) _)) hc1
    have P_0 : w1.cell? ⟨w.heap.size, 0, none⟩ = some (.slice la l.length lc) := (hc1.cell (p := ⟨w.heap.size, 0, none⟩) (by first | (simp; done) | (simp; omega))).trans (by first | (simp; done) | go_simp)
    have P_1 : w1.cell? ⟨w.heap.size, 1, none⟩ = some (.slice aa a.length ac) := (hc1.cell (p := ⟨w.heap.size, 1, none⟩) (by first | (simp; done) | (simp; omega))).trans (by first | (simp; done) | go_simp)
    have P_l : w.heap.size < w1.heap.size := Nat.lt_of_lt_of_le (by first | (simp; done) | (simp; omega)) hc1.size
    have O_0 : w1.cell? ⟨(w.heap.size + 1), 0, none⟩ = some (.slice none 0 0) := (hc1.cell (p := ⟨(w.heap.size + 1), 0, none⟩) (by first | (simp; done) | (simp; omega))).trans (by first | (simp; done) | go_simp)
    have O_1 : w1.cell? ⟨(w.heap.size + 1), 1, none⟩ = some (.slice none 0 0) := (hc1.cell (p := ⟨(w.heap.size + 1), 1, none⟩) (by first | (simp; done) | (simp; omega))).trans (by first | (simp; done) | go_simp)
    have O_f0 : w1.frozen? ⟨(w.heap.size + 1), 0, none⟩ = false := (hc1.frozen (p := ⟨(w.heap.size + 1), 0, none⟩) (by first | (simp; done) | (simp; omega))).trans (by first | (simp; done) | go_simp)
    have O_f1 : w1.frozen? ⟨(w.heap.size + 1), 1, none⟩ = false := (hc1.frozen (p := ⟨(w.heap.size + 1), 1, none⟩) (by first | (simp; done) | (simp; omega))).trans (by first | (simp; done) | go_simp)
    have O_l : (w.heap.size + 1) < w1.heap.size := Nat.lt_of_lt_of_le (by first | (simp; done) | (simp; omega)) hc1.size
    clear hc1 hb0
    rw [H_h8.out]
    go_wp2_with fail
    refine (rpicks_any l a ps la aa pa lc ac pc _ (hl.later hb1) (ha.later hb1) (hp.later hb1) hml).mono ?_
    rintro e w2 ⟨rfl, hc2⟩
    have hb2 : Below w.heap.size w w2 := bchain (by repeat' (first | with_reducible exact hb1 | with_reducible refine Below.drew ?_ | with_reducible refine below_drewN ?_ _ | with_reducible refine Below.alloc ?_ (by have := hb1.size; first | (simp; done) | (simp; omega) | omega) _ | with_reducible refine Below.setCell ?_ (by first | (simp; done) | (simp; omega) | omega) _)) hc2
    have hst2 : Below w1.heap.size w1 w2 := bchain (by repeat' (first | with_reducible exact Below.refl _ _ | with_reducible refine Below.drew ?_ | with_reducible refine below_drewN ?_ _ | with_reducible refine Below.alloc ?_ (by first | (simp; done) | (simp; omega) | omega) _ | with_reducible refine Below.setCell ?_ (by first | (simp; done) | (simp; omega) | omega) _)) hc2
    replace P_0 := cell_later hst2 P_0
    replace P_1 := cell_later hst2 P_1
    replace P_l := Nat.lt_of_lt_of_le P_l hst2.size
    replace O_0 := cell_later hst2 O_0
    replace O_1 := cell_later hst2 O_1
    replace O_f0 := frozen_later hst2 O_l O_f0
    replace O_f1 := frozen_later hst2 O_l O_f1
    replace O_l := Nat.lt_of_lt_of_le O_l hst2.size
    clear hst2
    clear hc2 hb1
    rw [H_h8.out]
    go_wp2_with fail
    exact bodyPost_ret (v := .tuple #[.agg #[.slice none 0 0, .slice none 0 0], .slice none 0 0, .int .i64 2]) (by simp [results, Try.results20, go_sem, *]) rfl ⟨TkRet3.of ⟨none, 0, none, 0, none, 0, rfl, .inl rfl, .inl rfl, .inl rfl, fun _ h => (by cases h), fun _ h => (by cases h), fun _ h => (by cases h)⟩ H_he.out, (by repeat' (first | with_reducible exact hb2 | with_reducible refine Below.drew ?_ | with_reducible refine below_drewN ?_ _ | with_reducible refine Below.alloc ?_ (by have := hb2.size; first | (simp; done) | (simp; omega) | omega) _ | with_reducible refine Below.setCell ?_ (by first | (simp; done) | (simp; omega) | omega) _))⟩
  · have he : ((([], []), [], 4) : (List Int × List Int) × List Int × Int) = tkRun l a ps := by simp [tkRun, h8]
    have H_he := hid he
    have H_h8 := hid h8
    clear he h8
    go_enter Try.func20, Try.ntmps20
    have hb0 := Below.refl w.heap.size w
    go_wp2_with fail
    refine (rpicks_any l a ps la aa pa lc ac pc _ ((hl.alloc _).alloc _) ((ha.alloc _).alloc _) ((hp.alloc _).alloc _) hml).mono ?_
    rintro e w1 ⟨rfl, hc1⟩
    have hb1 : Below w.heap.size w w1 := bchain (by repeat' (first | with_reducible exact hb0 | with_reducible refine Below.drew ?_ | with_reducible refine below_drewN ?_ _ | with_reducible refine Below.alloc ?_ (by have := hb0.size; first | (simp; done) | (simp; omega) | omega) _ | with_reducible refine Below.setCell ?_ (by first | (simp; done) | (simp; omega) | omega) _)) hc1
    have P_0 : w1.cell? ⟨w.heap.size, 0, none⟩ = some (.slice la l.length lc) := (hc1.cell (p := ⟨w.heap.size, 0, none⟩) (by first | (simp; done) | (simp; omega))).trans (by first | (simp; done) | go_simp)
    have P_1 : w1.cell? ⟨w.heap.size, 1, none⟩ = some (.slice aa a.length ac) := (hc1.cell (p := ⟨w.heap.size, 1, none⟩) (by first | (simp; done) | (simp; omega))).trans (by first | (simp; done) | go_simp)
    have P_l : w.heap.size < w1.heap.size := Nat.lt_of_lt_of_le (by first | (simp; done) | (simp; omega)) hc1.size
    have O_0 : w1.cell? ⟨(w.heap.size + 1), 0, none⟩ = some (.slice none 0 0) := (hc1.cell (p := ⟨(w.heap.size + 1), 0, none⟩) (by first | (simp; done) | (simp; omega))).trans (by first | (simp; done) | go_simp)
    have O_1 : w1.cell? ⟨(w.heap.size + 1), 1, none⟩ = some (.slice none 0 0) := (hc1.cell (p := ⟨(w.heap.size + 1), 1, none⟩) (by first | (simp; done) | (simp; omega))).trans (by first | (simp; done) | go_simp)
    have O_f0 : w1.frozen? ⟨(w.heap.size + 1), 0, none⟩ = false := (hc1.frozen (p := ⟨(w.heap.size + 1), 0, none⟩) (by first | (simp; done) | (simp; omega))).trans (by first | (simp; done) | go_simp)
    have O_f1 : w1.frozen? ⟨(w.heap.size + 1), 1, none⟩ = false := (hc1.frozen (p := ⟨(w.heap.size + 1), 1, none⟩) (by first | (simp; done) | (simp; omega))).trans (by first | (simp; done) | go_simp)
    have O_l : (w.heap.size + 1) < w1.heap.size := Nat.lt_of_lt_of_le (by first | (simp; done) | (simp; omega)) hc1.size
    clear hc1 hb0
    rw [H_h8.out]
    go_wp2_with fail
    refine (rpicks_any l a ps la aa pa lc ac pc _ (hl.later hb1) (ha.later hb1) (hp.later hb1) hml).mono ?_
    rintro e w2 ⟨rfl, hc2⟩
    have hb2 : Below w.heap.size w w2 := bchain (by repeat' (first | with_reducible exact hb1 | with_reducible refine Below.drew ?_ | with_reducible refine below_drewN ?_ _ | with_reducible refine Below.alloc ?_ (by have := hb1.size; first | (simp; done) | (simp; omega) | omega) _ | with_reducible refine Below.setCell ?_ (by first | (simp; done) | (simp; omega) | omega) _)) hc2
    have hst2 : Below w1.heap.size w1 w2 := bchain (by repeat' (first | with_reducible exact Below.refl _ _ | with_reducible refine Below.drew ?_ | with_reducible refine below_drewN ?_ _ | with_reducible refine Below.alloc ?_ (by first | (simp; done) | (simp; omega) | omega) _ | with_reducible refine Below.setCell ?_ (by first | (simp; done) | (simp; omega) | omega) _)) hc2
    replace P_0 := cell_later hst2 P_0
    replace P_1 := cell_later hst2 P_1
    replace P_l := Nat.lt_of_lt_of_le P_l hst2.size
    replace O_0 := cell_later hst2 O_0
    replace O_1 := cell_later hst2 O_1
    replace O_f0 := frozen_later hst2 O_l O_f0
    replace O_f1 := frozen_later hst2 O_l O_f1
    replace O_l := Nat.lt_of_lt_of_le O_l hst2.size
    clear hst2
    clear hc2 hb1
    rw [H_h8.out]
    go_wp2_with fail
    exact bodyPost_ret (v := .tuple #[.agg #[.slice none 0 0, .slice none 0 0], .slice none 0 0, .int .i64 4]) (by simp [results, Try.results20, go_sem, *]) rfl ⟨TkRet3.of ⟨none, 0, none, 0, none, 0, rfl, .inl rfl, .inl rfl, .inl rfl, fun _ h => (by cases h), fun _ h => (by cases h), fun _ h => (by cases h)⟩ H_he.out, (by repeat' (first | with_reducible exact hb2 | with_reducible refine Below.drew ?_ | with_reducible refine below_drewN ?_ _ | with_reducible refine Below.alloc ?_ (by have := hb2.size; first | (simp; done) | (simp; omega) | omega) _ | with_reducible refine Below.setCell ?_ (by first | (simp; done) | (simp; omega) | omega) _))⟩
  · have he : ((([], []), [], 8) : (List Int × List Int) × List Int × Int) = tkRun l a ps := by simp [tkRun, h8]
    have H_he := hid he
    have H_h8 := hid h8
    clear he h8
    go_enter Try.func20, Try.ntmps20
    have hb0 := Below.refl w.heap.size w
    go_wp2_with fail
    refine (rpicks_any l a ps la aa pa lc ac pc _ ((hl.alloc _).alloc _) ((ha.alloc _).alloc _) ((hp.alloc _).alloc _) hml).mono ?_
    rintro e w1 ⟨rfl, hc1⟩
    have hb1 : Below w.heap.size w w1 := bchain (by repeat' (first | with_reducible exact hb0 | with_reducible refine Below.drew ?_ | with_reducible refine below_drewN ?_ _ | with_reducible refine Below.alloc ?_ (by have := hb0.size; first | (simp; done) | (simp; omega) | omega) _ | with_reducible refine Below.setCell ?_ (by first | (simp; done) | (simp; omega) | omega) _)) hc1
    have P_0 : w1.cell? ⟨w.heap.size, 0, none⟩ = some (.slice la l.length lc) := (hc1.cell (p := ⟨w.heap.size, 0, none⟩) (by first | (simp; done) | (simp; omega))).trans (by first | (simp; done) | go_simp)
    have P_1 : w1.cell? ⟨w.heap.size, 1, none⟩ = some (.slice aa a.length ac) := (hc1.cell (p := ⟨w.heap.size, 1, none⟩) (by first | (simp; done) | (simp; omega))).trans (by first | (simp; done) | go_simp)
    have P_l : w.heap.size < w1.heap.size := Nat.lt_of_lt_of_le (by first | (simp; done) | (simp; omega)) hc1.size
    have O_0 : w1.cell? ⟨(w.heap.size + 1), 0, none⟩ = some (.slice none 0 0) := (hc1.cell (p := ⟨(w.heap.size + 1), 0, none⟩) (by first | (simp; done) | (simp; omega))).trans (by first | (simp; done) | go_simp)
    have O_1 : w1.cell? ⟨(w.heap.size + 1), 1, none⟩ = some (.slice none 0 0) := (hc1.cell (p := ⟨(w.heap.size + 1), 1, none⟩) (by first | (simp; done) | (simp; omega))).trans (by first | (simp; done) | go_simp)
    have O_f0 : w1.frozen? ⟨(w.heap.size + 1), 0, none⟩ = false := (hc1.frozen (p := ⟨(w.heap.size + 1), 0, none⟩) (by first | (simp; done) | (simp; omega))).trans (by first | (simp; done) | go_simp)
    have O_f1 : w1.frozen? ⟨(w.heap.size + 1), 1, none⟩ = false := (hc1.frozen (p := ⟨(w.heap.size + 1), 1, none⟩) (by first | (simp; done) | (simp; omega))).trans (by first | (simp; done) | go_simp)
    have O_l : (w.heap.size + 1) < w1.heap.size := Nat.lt_of_lt_of_le (by first | (simp; done) | (simp; omega)) hc1.size
    clear hc1 hb0
    rw [H_h8.out]
    go_wp2_with fail
    refine (rpicks_any l a ps la aa pa lc ac pc _ (hl.later hb1) (ha.later hb1) (hp.later hb1) hml).mono ?_
    rintro e w2 ⟨rfl, hc2⟩
    have hb2 : Below w.heap.size w w2 := bchain (by repeat' (first | with_reducible exact hb1 | with_reducible refine Below.drew ?_ | with_reducible refine below_drewN ?_ _ | with_reducible refine Below.alloc ?_ (by have := hb1.size; first | (simp; done) | (simp; omega) | omega) _ | with_reducible refine Below.setCell ?_ (by first | (simp; done) | (simp; omega) | omega) _)) hc2
    have hst2 : Below w1.heap.size w1 w2 := bchain (by repeat' (first | with_reducible exact Below.refl _ _ | with_reducible refine Below.drew ?_ | with_reducible refine below_drewN ?_ _ | with_reducible refine Below.alloc ?_ (by first | (simp; done) | (simp; omega) | omega) _ | with_reducible refine Below.setCell ?_ (by first | (simp; done) | (simp; omega) | omega) _)) hc2
    replace P_0 := cell_later hst2 P_0
    replace P_1 := cell_later hst2 P_1
    replace P_l := Nat.lt_of_lt_of_le P_l hst2.size
    replace O_0 := cell_later hst2 O_0
    replace O_1 := cell_later hst2 O_1
    replace O_f0 := frozen_later hst2 O_l O_f0
    replace O_f1 := frozen_later hst2 O_l O_f1
    replace O_l := Nat.lt_of_lt_of_le O_l hst2.size
    clear hst2
    clear hc2 hb1
    rw [H_h8.out]
    go_wp2_with fail
    exact bodyPost_ret (v := .tuple #[.agg #[.slice none 0 0, .slice none 0 0], .slice none 0 0, .int .i64 8]) (by simp [results, Try.results20, go_sem, *]) rfl ⟨TkRet3.of ⟨none, 0, none, 0, none, 0, rfl, .inl rfl, .inl rfl, .inl rfl, fun _ h => (by cases h), fun _ h => (by cases h), fun _ h => (by cases h)⟩ H_he.out, (by repeat' (first | with_reducible exact hb2 | with_reducible refine Below.drew ?_ | with_reducible refine below_drewN ?_ _ | with_reducible refine Below.alloc ?_ (by have := hb2.size; first | (simp; done) | (simp; omega) | omega) _ | with_reducible refine Below.setCell ?_ (by first | (simp; done) | (simp; omega) | omega) _))⟩

end Go.Proofs.Ytoelndaeemlefaa
