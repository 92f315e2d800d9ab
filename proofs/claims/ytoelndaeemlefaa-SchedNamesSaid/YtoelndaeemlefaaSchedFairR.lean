/- What the reference's Fair returns. -/
import Derived.Test.YtoelndaeemlefaaSchedHas
namespace Go.Proofs.Ytoelndaeemlefaa
set_option linter.unusedSimpArgs false
set_option linter.unusedVariables false
set_option linter.unnecessarySimpa false
open Go.RowKit

theorem info_ints : (Try.prog.info? 22).map (fun i => (i.zero, i.size, i.bytes)) = some (some (.slice none 0 0), 1, 24) := by kernel_rfl
theorem CellsAt.grown {w w' : World} {a : Option Addr} {cs : List Value} {row : Option Nat} (h : CellsAt w a cs) (hg : w.grownBy w' row) (hne : ∀ ad, a = some ad → ad.block < w.heap.size ∧ some ad.block ≠ row) : CellsAt w' a cs := by
  rcases h with h | ⟨b, o, rfl, h⟩
  · exact .inl h
  · obtain ⟨h1, h2⟩ := hne _ rfl
    exact .inr ⟨b, o, rfl, fun j u hj => (World.cell?_of_block (hg.block b h1 h2)).trans (h j u hj)⟩
/-- The runnable ones at pick j. -/
def runsAt (l a ps : List Int) (j : Nat) : List Int := runs (runAt a ps l j).1 a l.length
/-- The state of the reference's Fair. -/
structure BSt (wr : World) (B N lb : Nat) (aa : Option Addr) (lc : Nat) (l a ps : List Int) (k k2 : Nat) (bv : Value) (vals : List Value) : Prop where
  tk : Tk wr B N (some ⟨lb, 0, none⟩) aa lc (runAt a ps l k).1 a
  own : OwnX wr N 22 1 bv k2 vals
  row : ∀ j, j < k2 → ∃ oa oc, vals[j]? = some (.slice oa (runsAt l a ps j).length oc) ∧ CellsAt wr oa ((runsAt l a ps j).map (Value.int .i64)) ∧ ∀ ad, oa = some ad → N ≤ ad.block ∧ ad.block < wr.heap.size ∧ bv.ownBlock ≠ some ad.block
  at_ : AtLeast N wr
theorem BSt.later {wr w' : World} {B N lb : Nat} {aa : Option Addr} {lc : Nat} {l a ps : List Int} {k k2 : Nat} {bv : Value} {vals : List Value} (h : BSt wr B N lb aa lc l a ps k k2 bv vals) (hb : Below wr.heap.size wr w') : BSt w' B N lb aa lc l a ps k k2 bv vals :=
  ⟨h.tk.later hb, h.own.later hb, fun j hj => by
    obtain ⟨oa, oc, h1, h2, h3⟩ := h.row j hj
    exact ⟨oa, oc, h1, h2.later hb, fun ad e => ⟨(h3 ad e).1, Nat.lt_of_lt_of_le (h3 ad e).2.1 hb.size, (h3 ad e).2.2⟩⟩, h.at_.later hb⟩
theorem BSt.app {w0 w11 w12 : World} {B N lb : Nat} {aa : Option Addr} {lc : Nat} {l a ps : List Int} {k k2 : Nat} {bv bv' : Value} {vals : List Value} {oa : Option Addr} {oc : Nat} {o : Obj}
    (h : BSt w11 B N lb aa lc l a ps k k2 bv vals) (hN : N ≤ w0.heap.size) (hbv : ∀ q, bv.ownBlock = some q → q < w0.heap.size) (hr : OwnX w11 w0.heap.size 3 1 (.slice oa (runsAt l a ps k2).length oc) (runsAt l a ps k2).length ((runsAt l a ps k2).map (Value.int .i64)))
    (hown : OwnX w12 N 22 1 bv' (k2 + 1) (vals ++ [.slice oa (runsAt l a ps k2).length oc])) (hg : (w11.alloc o).grownBy w12 bv.ownBlock) (hat : ∀ q, bv'.ownBlock = some q → bv.ownBlock = some q ∨ q = (w11.alloc o).heap.size) :
    BSt w12 B N lb aa lc l a ps k (k2 + 1) bv' (vals ++ [.slice oa (runsAt l a ps k2).length oc]) := by
  have hN11 : N ≤ w11.heap.size := h.at_
  have hs : (w11.alloc o).heap.size = w11.heap.size + 1 := by simp
  have hP : Below N (w11.alloc o) w12 := below_grownX (Below.refl N _) hg (by omega) (fun q hq => (h.own.lt q hq).1)
  have hb1 : Below w11.heap.size w11 (w11.alloc o) := (Below.refl _ _).alloc (Nat.le_refl _) _
  refine ⟨(h.tk.later hb1).below hP, hown, fun j hj => ?_, Nat.le_trans hN11 (by have := hg.size; omega)⟩
  have hvl : vals.length = k2 := by have := h.own.len; omega
  by_cases hjk : j < k2
  · obtain ⟨oa', oc', h1, h2, h3⟩ := h.row j hjk
    refine ⟨oa', oc', by rw [List.getElem?_append_left (by omega)]; exact h1, (h2.later hb1).grown hg (fun ad e => ⟨by have := (h3 ad e).2.1; omega, fun e2 => (h3 ad e).2.2 e2.symm⟩), fun ad e => ⟨(h3 ad e).1, by have := (h3 ad e).2.1; have := hg.size; omega, fun e2 => ?_⟩⟩
    rcases hat _ e2 with h4 | h4
    · exact (h3 ad e).2.2 h4
    · have := (h3 ad e).2.1; omega
  · obtain rfl : j = k2 := by omega
    refine ⟨oa, oc, by rw [List.getElem?_append_right (by omega)]; simp [hvl], (hr.cellsAt.later hb1).grown hg (fun ad e => ⟨by have := (hr.addr ad e).2; omega, fun e2 => ?_⟩), fun ad e => ⟨by have := (hr.addr ad e).1; omega, by have := (hr.addr ad e).2; have := hg.size; omega, fun e2 => ?_⟩⟩
    · have := hbv _ e2.symm; have := (hr.addr ad e).1; omega
    · rcases hat _ e2 with h4 | h4
      · have := hbv _ h4; have := (hr.addr ad e).1; omega
      · have := (hr.addr ad e).2; omega
theorem BSt.setl {wr : World} {B N lb : Nat} {aa : Option Addr} {lc : Nat} {l a ps : List Int} {k k2 m : Nat} {bv : Value} {vals : List Value} {x : Int} {D : List Int} (h : BSt wr B N lb aa lc l a ps k k2 bv vals) (hm : m < (runAt a ps l k).1.length) (hrs : runAt a ps l (k + 1) = ((runAt a ps l k).1.set m x, D)) :
    BSt (wr.setCell ⟨lb, m, none⟩ (.int .i64 x)) B N lb aa lc l a ps (k + 1) k2 bv vals := by
  have hlt := h.tk.lt ⟨lb, 0, none⟩ rfl
  refine ⟨by rw [hrs]; exact h.tk.set hm x, h.own.setCell (a := ⟨lb, m, none⟩) hlt _, fun j hj => ?_, by have := h.at_; unfold AtLeast at *; simpa using this⟩
  obtain ⟨oa, oc, h1, h2, h3⟩ := h.row j hj
  refine ⟨oa, oc, h1, h2.setFarG (p := ⟨lb, m, none⟩) (fun ad e => ?_) _, fun ad e => ⟨(h3 ad e).1, by simpa using (h3 ad e).2.1, (h3 ad e).2.2⟩⟩
  have := (h3 ad e).1
  simp only at hlt
  show ad.block ≠ lb
  omega
theorem BSt.same {wr : World} {B N lb : Nat} {aa : Option Addr} {lc : Nat} {l a ps : List Int} {k k2 : Nat} {bv : Value} {vals : List Value} (h : BSt wr B N lb aa lc l a ps k k2 bv vals) (hrs : runAt a ps l (k + 1) = runAt a ps l k) : BSt wr B N lb aa lc l a ps (k + 1) k2 bv vals :=
  ⟨by rw [hrs]; exact h.tk, h.own, h.row, h.at_⟩

theorem window_cells {w : World} {b o i W : Nat} {ps : List Int} (h : CellsAt w (some ⟨b, o, none⟩) (ps.map (Value.int .i64))) : CellsAt w (some ⟨b, o + i, none⟩) (((ps.drop i).take W).map (Value.int .i64)) := by
  rcases h with h | ⟨b', o', e, h⟩
  · left; simp at h; simp [h]
  · cases e
    refine .inr ⟨b, o + i, rfl, fun j u hj => ?_⟩
    rw [Nat.add_assoc]
    refine h (i + j) u ?_
    rw [List.getElem?_map] at hj ⊢
    by_cases hjW : j < W
    · rwa [List.getElem?_take_of_lt hjW, List.getElem?_drop] at hj
    · rw [List.getElem?_take_eq_none (by omega)] at hj; simp at hj
theorem window_mem {ps : List Int} {i W q : Nat} (hi : i + W ≤ ps.length) : ((q : Int) ∈ (ps.drop i).take W) ↔ ∃ d, d < W ∧ g ps (i + d) = q := by
  rw [mem_g]
  have hl : ((ps.drop i).take W).length = W := by simp; omega
  have hg : ∀ d, d < W → g ((ps.drop i).take W) d = g ps (i + d) := fun d hd => by
    unfold g
    rw [List.getElem?_take_of_lt hd, List.getElem?_drop]
  rw [hl]
  constructor
  · rintro ⟨j, h1, h2⟩; exact ⟨j, h1, by rw [← hg j h1]; exact h2⟩
  · rintro ⟨j, h1, h2⟩; exact ⟨j, h1, by rw [hg j h1]; exact h2⟩

set_option maxRecDepth 100000 in
set_option maxHeartbeats 40000000 in
theorem rfair_any (l a ps : List Int) (win : Int) (la aa pa : Option Addr) (lc ac pc : Nat) (w : World) (hl : CellsAt w la (l.map (Value.int .i64))) (ha : CellsAt w aa (a.map (Value.int .i64))) (hp : CellsAt w pa (ps.map (Value.int .i64))) (hml : l.length ≤ maxLen) (hpc : ps.length ≤ pc) :
    Calls Try.prog 26 #[.agg #[.slice la l.length lc, .slice aa a.length ac], .slice pa ps.length pc, .int .i64 win] w fun e w' =>
      e = .returned (.tuple #[.bool (tkFair l a ps win).1, .int .i64 (tkFair l a ps win).2]) ∧ Below w.heap.size w w' := by
  rcases pkErr_cases l a ps with h8 | h8 | h8 | h8
  · by_cases n1 : win < 1
    · have he : (false, (2 : Int)) = tkFair l a ps win := by simp [tkFair, h8, n1]
      have H_h8 := hid h8
      have H_he := hid he
      clear h8 he
      go_enter Try.func26, Try.ntmps26
      have hb0 := Below.refl w.heap.size w
      go_wp2_with fail
      refine (rpicks_any l a ps la aa pa lc ac pc _ (hl.alloc _) (ha.alloc _) (hp.alloc _) hml).mono ?_
      rintro e w1 ⟨rfl, hc1⟩
      have hb1 : Below w.heap.size w w1 := bchain (by repeat' (first | with_reducible exact hb0 | with_reducible refine Below.drew ?_ | with_reducible refine below_drewN ?_ _ | with_reducible refine Below.alloc ?_ (by have := hb0.size; first | (simp; done) | (simp; omega) | omega) _ | with_reducible refine Below.setCell ?_ (by first | (simp; done) | (simp; omega) | omega) _)) hc1
      have P_0 : w1.cell? ⟨w.heap.size, 0, none⟩ = some (.slice la l.length lc) := (hc1.cell (p := ⟨w.heap.size, 0, none⟩) (by first | (simp; done) | (simp; omega))).trans (by first | (simp; done) | go_simp)
      have P_1 : w1.cell? ⟨w.heap.size, 1, none⟩ = some (.slice aa a.length ac) := (hc1.cell (p := ⟨w.heap.size, 1, none⟩) (by first | (simp; done) | (simp; omega))).trans (by first | (simp; done) | go_simp)
      have P_l : w.heap.size < w1.heap.size := Nat.lt_of_lt_of_le (by first | (simp; done) | (simp; omega)) hc1.size
      clear hc1 hb0
      rw [H_h8.out]
      go_wp2_with fail
      go_ret2
      exact ⟨by rw [← H_he.out]; rfl, (by repeat' (first | with_reducible exact hb1 | with_reducible refine Below.drew ?_ | with_reducible refine below_drewN ?_ _ | with_reducible refine Below.alloc ?_ (by have := hb1.size; first | (simp; done) | (simp; omega) | omega) _ | with_reducible refine Below.setCell ?_ (by first | (simp; done) | (simp; omega) | omega) _))⟩
    obtain ⟨W, rfl⟩ : ∃ W : Nat, win = W := ⟨win.toNat, by omega⟩
    have hW : 1 ≤ W := by omega
    by_cases n2 : ps.length < W
    · have hfb : fairB l a ps W = true := fairB_yes fun i k hi => by omega
      have he : (true, (0 : Int)) = tkFair l a ps W := by simp [tkFair, h8, n1, hfb]
      clear hfb
      have H_h8 := hid h8
      have H_he := hid he
      clear h8 he
      go_enter Try.func26, Try.ntmps26
      have hb0 := Below.refl w.heap.size w
      go_wp2_with fail
      refine (rpicks_any l a ps la aa pa lc ac pc _ (hl.alloc _) (ha.alloc _) (hp.alloc _) hml).mono ?_
      rintro e w1 ⟨rfl, hc1⟩
      have hb1 : Below w.heap.size w w1 := bchain (by repeat' (first | with_reducible exact hb0 | with_reducible refine Below.drew ?_ | with_reducible refine below_drewN ?_ _ | with_reducible refine Below.alloc ?_ (by have := hb0.size; first | (simp; done) | (simp; omega) | omega) _ | with_reducible refine Below.setCell ?_ (by first | (simp; done) | (simp; omega) | omega) _)) hc1
      have P_0 : w1.cell? ⟨w.heap.size, 0, none⟩ = some (.slice la l.length lc) := (hc1.cell (p := ⟨w.heap.size, 0, none⟩) (by first | (simp; done) | (simp; omega))).trans (by first | (simp; done) | go_simp)
      have P_1 : w1.cell? ⟨w.heap.size, 1, none⟩ = some (.slice aa a.length ac) := (hc1.cell (p := ⟨w.heap.size, 1, none⟩) (by first | (simp; done) | (simp; omega))).trans (by first | (simp; done) | go_simp)
      have P_l : w.heap.size < w1.heap.size := Nat.lt_of_lt_of_le (by first | (simp; done) | (simp; omega)) hc1.size
      clear hc1 hb0
      rw [H_h8.out]
      go_wp2_with fail
      go_ret2
      exact ⟨by rw [← H_he.out]; rfl, (by repeat' (first | with_reducible exact hb1 | with_reducible refine Below.drew ?_ | with_reducible refine below_drewN ?_ _ | with_reducible refine Below.alloc ?_ (by have := hb1.size; first | (simp; done) | (simp; omega) | omega) _ | with_reducible refine Below.setCell ?_ (by first | (simp; done) | (simp; omega) | omega) _))⟩
    have he : (fairB l a ps W, (0 : Int)) = tkFair l a ps W := by simp [tkFair, h8, n1]
    obtain ⟨h1, h2, h3⟩ := pkErr_ok h8
    obtain ⟨q1, q2, q3, _⟩ := tErr_ok h1
    have htv := TV.of h1
    have q4 : a.length ≤ 17592186044415 := by omega
    have q5 : l.length ≤ 17592186044415 := by omega
    have q6 : 0 < a.length := by omega
    have hWl : W ≤ ps.length := by omega
    have n2' : ¬ (ps.length : Int) < (W : Int) := by omega
    obtain ⟨i1, hi, hz0, hz1, hz2⟩ := info_parts info_ints
    have H_he := hid he
    have H_h8 := hid h8
    have H_h1 := hid h1
    have H_q3 := hid q3
    clear he h8 h1 q3
    go_enter Try.func26, Try.ntmps26
    have hb0 := Below.refl w.heap.size w
    go_wp2_with fail
    refine (rpicks_any l a ps la aa pa lc ac pc _ (hl.alloc _) (ha.alloc _) (hp.alloc _) hml).mono ?_
    rintro e w1 ⟨rfl, hc1⟩
    have hb1 : Below w.heap.size w w1 := bchain (by repeat' (first | with_reducible exact hb0 | with_reducible refine Below.drew ?_ | with_reducible refine below_drewN ?_ _ | with_reducible refine Below.alloc ?_ (by have := hb0.size; first | (simp; done) | (simp; omega) | omega) _ | with_reducible refine Below.setCell ?_ (by first | (simp; done) | (simp; omega) | omega) _)) hc1
    have P_0 : w1.cell? ⟨w.heap.size, 0, none⟩ = some (.slice la l.length lc) := (hc1.cell (p := ⟨w.heap.size, 0, none⟩) (by first | (simp; done) | (simp; omega))).trans (by first | (simp; done) | go_simp)
    have P_1 : w1.cell? ⟨w.heap.size, 1, none⟩ = some (.slice aa a.length ac) := (hc1.cell (p := ⟨w.heap.size, 1, none⟩) (by first | (simp; done) | (simp; omega))).trans (by first | (simp; done) | go_simp)
    have P_l : w.heap.size < w1.heap.size := Nat.lt_of_lt_of_le (by first | (simp; done) | (simp; omega)) hc1.size
    clear hc1 hb0
    rw [H_h8.out]
    replace hl := hl.later hb1
    replace ha := ha.later hb1
    have z1 := P_l
    go_wp2_with fail
    refine (rtwin_any l a la aa lc ac _ hl ha q5 q4).mono ?_
    rintro e w2 ⟨l2, lc2, a2, ac2, rfl, k1, k2, kf, hc2⟩
    have hb2 : Below w.heap.size w w2 := bchain (by repeat' (first | with_reducible exact hb1 | with_reducible refine Below.drew ?_ | with_reducible refine below_drewN ?_ _ | with_reducible refine Below.alloc ?_ (by have := hb1.size; first | (simp; done) | (simp; omega) | omega) _ | with_reducible refine Below.setCell ?_ (by first | (simp; done) | (simp; omega) | omega) _)) hc2
    have hst2 : Below w1.heap.size w1 w2 := bchain (by repeat' (first | with_reducible exact Below.refl _ _ | with_reducible refine Below.drew ?_ | with_reducible refine below_drewN ?_ _ | with_reducible refine Below.alloc ?_ (by first | (simp; done) | (simp; omega) | omega) _ | with_reducible refine Below.setCell ?_ (by first | (simp; done) | (simp; omega) | omega) _)) hc2
    replace P_0 := cell_later hst2 P_0
    replace P_1 := cell_later hst2 P_1
    replace P_l := Nat.lt_of_lt_of_le P_l hst2.size
    clear hst2
    clear hc2 hb1
    obtain ⟨t4, t5⟩ := kf q1 q6
    obtain ⟨lb, rfl, f1, f2, -⟩ := t4.at q1
    clear k1 k2 kf t5 hl ha
    have t6 := (t4.mono (B' := w.heap.size + 1) (by omega)).alloc (.cells #[.slice (some ⟨lb, 0, none⟩) l.length lc2, .slice a2 a.length ac2] 24)
    simp only [World.size_alloc] at t6
    clear t4
    go_wp2_with fail
    go_loopw [8, 10] (fun s i wr => ∃ (k : Nat) (ba : Option Addr) (bc : Nat) (vals : List Value), k ≤ ps.length ∧ s = .slice ba k bc ∧ i = .int .i64 k ∧ Below w.heap.size w wr ∧ (wr.cell? ⟨w.heap.size, 0, none⟩ = some (.slice la l.length lc) ∧ wr.cell? ⟨w.heap.size, 1, none⟩ = some (.slice aa a.length ac)) ∧ (wr.cell? ⟨w2.heap.size, 0, none⟩ = some (.slice (some ⟨lb, 0, none⟩) l.length lc2) ∧ wr.cell? ⟨w2.heap.size, 1, none⟩ = some (.slice a2 a.length ac2)) ∧ Hid (BSt wr (w.heap.size + 1) (w2.heap.size + 1) lb a2 lc2 l a ps k k (.slice ba k bc) vals)) (fun _ i _ => ps.length - (intOf i).toNat)
    case atStart => exact ⟨0, none, 0, [], Nat.zero_le _, rfl, rfl, (by repeat' (first | with_reducible exact hb2 | with_reducible refine Below.drew ?_ | with_reducible refine below_drewN ?_ _ | with_reducible refine Below.alloc ?_ (by have := hb2.size; first | (simp; done) | (simp; omega) | omega) _ | with_reducible refine Below.setCell ?_ (by first | (simp; done) | (simp; omega) | omega) _)), ⟨by go_simp, by go_simp⟩, ⟨by go_simp, by go_simp⟩, hid ⟨t6, OwnX.nil _ _ _ _, fun j hj => by omega, by simp [AtLeast]⟩⟩
    case round =>
      have z2 := P_l
      clear t6 P_0 P_1 P_l hb2
      obtain ⟨k, ba, bc, vals, hk, rfl, rfl, hbw, ⟨P_0, P_1⟩, ⟨U_0, U_1⟩, HS⟩ := hrel
      have S := HS.out
      clear HS
      have hNw : w2.heap.size + 1 ≤ wr.heap.size := S.at_
      by_cases hlt : k < ps.length
      · have hlt' : (k : Int) < (ps.length : Int) := by omega
        obtain ⟨b, o, rfl, hr⟩ := hp.intG (by omega)
        obtain ⟨d1, d2, d3⟩ := hr k hlt
        clear hr
        obtain ⟨m, hm⟩ : ∃ m : Nat, g ps k = m := ⟨(g ps k).toNat, by have := h3 k hlt; omega⟩
        have hml2 : m < l.length := by have := (h3 k hlt).2; omega
        have hml' : (m : Int) < (l.length : Int) := by omega
        rw [hm] at d1
        have htvk := runAt_TV htv h3 (Nat.le_of_lt hlt)
        have hL := runAt_len a ps l k
        have hLn : (runAt a ps l k).1.length ≤ 12 := by omega
        have hmL : m < (runAt a ps l k).1.length := by omega
        have hbv : ∀ q, (Value.slice ba k bc).ownBlock = some q → q < wr.heap.size := fun q hq => (S.own.lt q hq).2
        have hrk : runs (runAt a ps l k).1 a (runAt a ps l k).1.length = runsAt l a ps k := by rw [hL]; rfl
        have H_hm := hid hm
        have H_hL := hid hL
        have H_hrk := hid hrk
        clear hm hL hrk
        have U_l : w2.heap.size < wr.heap.size := by omega
        have P_l : w.heap.size < wr.heap.size := by omega
        go_wp2_with fail
        refine (rall_n l.length a.length _ a _ a2 lc2 ac2 _ H_hL.out.symm rfl S.tk.left S.tk.aft htvk hLn).mono ?_
        rintro e w11 ⟨oa, oc, rfl, hown, hc11⟩
        have hb11 : Below w.heap.size w w11 := bchain (by repeat' (first | with_reducible exact hbw | with_reducible refine Below.drew ?_ | with_reducible refine below_drewN ?_ _ | with_reducible refine Below.alloc ?_ (by have := hbw.size; first | (simp; done) | (simp; omega) | omega) _ | with_reducible refine Below.setCell ?_ (by first | (simp; done) | (simp; omega) | omega) _)) hc11
        have hst11 : Below wr.heap.size wr w11 := bchain (by repeat' (first | with_reducible exact Below.refl _ _ | with_reducible refine Below.drew ?_ | with_reducible refine below_drewN ?_ _ | with_reducible refine Below.alloc ?_ (by first | (simp; done) | (simp; omega) | omega) _ | with_reducible refine Below.setCell ?_ (by first | (simp; done) | (simp; omega) | omega) _)) hc11
        replace U_0 := cell_later hst11 U_0
        replace U_1 := cell_later hst11 U_1
        replace U_l := Nat.lt_of_lt_of_le U_l hst11.size
        replace P_0 := cell_later hst11 P_0
        replace P_1 := cell_later hst11 P_1
        replace P_l := Nat.lt_of_lt_of_le P_l hst11.size
        replace S := S.later hst11
        clear hst11
        clear hc11 hbw
        rw [H_hrk.out] at hown
        rw [H_hrk.out]
        go_wp2_with (at_builtin; refine stop ?_)
        refine Stop.go ?_
        refine wpList_append_x _ rfl _ _ 67 rfl (w2.heap.size + 1) 22 i1 (.slice none 0 0) 1 24 Try.underlying67 hi hz0 hz1 hz2 rfl (by decide) _ _ _ rfl (S.own.alloc _) (some ⟨w11.heap.size, 0, none⟩) 1 1 [.slice oa (runsAt l a ps k).length oc] rfl rfl (cellsAt_one w11 _ _) (fun u hu => by simp at hu; subst hu; rfl) (by unfold maxLen; omega) (by omega) (by simp; omega) ?_
        intro a3 c3 w12 hown3 hg hat
        have hP : Below (w2.heap.size + 1) w11 w12 := below_grownX ((Below.refl (w2.heap.size + 1) w11).alloc (by omega) _) hg (by simp; omega) (fun q hq => (S.own.lt q hq).1)
        have hb12 : Below w.heap.size w w12 := below_grownX (by repeat' (first | with_reducible exact hb11 | with_reducible refine Below.drew ?_ | with_reducible refine below_drewN ?_ _ | with_reducible refine Below.alloc ?_ (by have := hb11.size; first | (simp; done) | (simp; omega) | omega) _ | with_reducible refine Below.setCell ?_ (by first | (simp; done) | (simp; omega) | omega) _)) (base := w.heap.size) hg (by simp; omega) (fun q hq => by have := (S.own.lt q hq).1; omega)
        have S2 := S.app hNw hbv hown hown3 hg hat
        replace U_0 := (hP.cell (p := ⟨w2.heap.size, 0, none⟩) (by simp)).trans U_0
        replace U_1 := (hP.cell (p := ⟨w2.heap.size, 1, none⟩) (by simp)).trans U_1
        replace P_0 := (hP.cell (p := ⟨w.heap.size, 0, none⟩) (by simp; omega)).trans P_0
        replace P_1 := (hP.cell (p := ⟨w.heap.size, 1, none⟩) (by simp; omega)).trans P_1
        have c1 := cell_later hb12 d1
        have hz12 : w2.heap.size + 1 ≤ w12.heap.size := S2.at_
        clear S hown hown3 hg hat hP hb11
        by_cases hcan : can (runAt a ps l k).1 a m = true
        · have hx : 0 < g (runAt a ps l k).1 m := by simp only [can, Bool.and_eq_true, decide_eq_true_eq] at hcan; exact hcan.1
          have hx2 : g (runAt a ps l k).1 m ≤ 60 := (htvk.nth m hmL).2.1
          have hrs := runAt_yes H_hm.out hcan
          have H_hcan := hid hcan
          have H_hrs := hid hrs
          clear hcan hrs
          go_wp2_with fail
          go_region_held3 (fun w' => w'.cell? ⟨w2.heap.size, 0, none⟩ = some (.slice (some ⟨lb, 0, none⟩) l.length lc2) ∧ w'.cell? ⟨w2.heap.size, 1, none⟩ = some (.slice a2 a.length ac2) ∧ w'.cell? ⟨b, o + k, none⟩ = some (.int .i64 m)) (first | exact ⟨U_0, U_1, c1⟩ | exact ⟨cell_later hc13 U_0, cell_later hc13 U_1, cell_later hc13 c1⟩) ((go_at_call 30; refine (rcan_n l.length a.length _ a _ a2 lc2 ac2 m _ H_hL.out.symm rfl S2.tk.left.drew S2.tk.aft.drew hmL htvk).mono ?_; rintro e w13 ⟨rfl, hc13⟩))
          try rw [H_hcan.out]
          replace c1 := cell_later hc13 c1
          replace U_0 := cell_later hc13 U_0
          replace U_1 := cell_later hc13 U_1
          replace P_0 := cell_later hc13 P_0
          replace P_1 := cell_later hc13 P_1
          have hc13' : Below w12.heap.size w12 w13 := bchain ((Below.refl _ _).drew) hc13
          replace S2 := S2.later hc13'
          have hb13 : Below w.heap.size w w13 := bchain hb12 hc13'
          have hz13 : w12.heap.size ≤ w13.heap.size := hc13.size
          clear hc13 hc13'
          obtain ⟨lb', e1, -, f3, hcells⟩ := S2.tk.at (by omega)
          cases e1
          obtain ⟨x1, x2⟩ := hcells m hmL
          clear hcells
          have xl : lb < w13.heap.size := by omega
          have S3 := S2.setl hmL H_hrs.out
          have hneU : w2.heap.size ≠ lb := by omega
          have hneP : w.heap.size ≠ lb := by omega
          go_wp2_with fail
          go_region
          go_wp2_with fail
          go_roundw
          case rel => exact ⟨k + 1, a3, c3, _, by omega, by simp, by go_num, (by repeat' (first | with_reducible exact hb13 | with_reducible refine Below.drew ?_ | with_reducible refine below_drewN ?_ _ | with_reducible refine Below.alloc ?_ (by have := hb13.size; first | (simp; done) | (simp; omega) | omega) _ | with_reducible refine Below.setCell ?_ (by first | (simp; done) | (simp; omega) | omega) _)), ⟨by go_simp, by go_simp⟩, ⟨by go_simp, by go_simp⟩, hid (by first | exact S3 | exact S3.later ((Below.refl _ _).drew))⟩
          case measure => simp [intOf]; omega
        · have hcan : can (runAt a ps l k).1 a m = false := by simpa using hcan
          have hrs := runAt_no H_hm.out hcan
          have H_hcan := hid hcan
          have H_hrs := hid hrs
          clear hcan hrs
          go_wp2_with fail
          go_region_held3 (fun w' => w'.cell? ⟨w2.heap.size, 0, none⟩ = some (.slice (some ⟨lb, 0, none⟩) l.length lc2) ∧ w'.cell? ⟨w2.heap.size, 1, none⟩ = some (.slice a2 a.length ac2) ∧ w'.cell? ⟨b, o + k, none⟩ = some (.int .i64 m)) (first | exact ⟨U_0, U_1, c1⟩ | exact ⟨cell_later hc13 U_0, cell_later hc13 U_1, cell_later hc13 c1⟩) ((go_at_call 30; refine (rcan_n l.length a.length _ a _ a2 lc2 ac2 m _ H_hL.out.symm rfl S2.tk.left.drew S2.tk.aft.drew hmL htvk).mono ?_; rintro e w13 ⟨rfl, hc13⟩))
          try rw [H_hcan.out]
          replace c1 := cell_later hc13 c1
          replace U_0 := cell_later hc13 U_0
          replace U_1 := cell_later hc13 U_1
          replace P_0 := cell_later hc13 P_0
          replace P_1 := cell_later hc13 P_1
          have hc13' : Below w12.heap.size w12 w13 := bchain ((Below.refl _ _).drew) hc13
          replace S2 := S2.later hc13'
          have hb13 : Below w.heap.size w w13 := bchain hb12 hc13'
          have hz13 : w12.heap.size ≤ w13.heap.size := hc13.size
          clear hc13 hc13'
          have S3 := S2.same H_hrs.out
          go_wp2_with fail
          go_roundw
          case rel => exact ⟨k + 1, a3, c3, _, by omega, by simp, by go_num, (by repeat' (first | with_reducible exact hb13 | with_reducible refine Below.drew ?_ | with_reducible refine below_drewN ?_ _ | with_reducible refine Below.alloc ?_ (by have := hb13.size; first | (simp; done) | (simp; omega) | omega) _ | with_reducible refine Below.setCell ?_ (by first | (simp; done) | (simp; omega) | omega) _)), ⟨by go_simp, by go_simp⟩, ⟨by go_simp, by go_simp⟩, hid (by first | exact S3 | exact S3.later ((Below.refl _ _).drew))⟩
          case measure => simp [intOf]; omega
      · obtain rfl : k = ps.length := by omega
        obtain ⟨b, o, rfl, hr⟩ := hp.intG (by omega)
        obtain ⟨bb, rfl, -, hbb, hvals, -⟩ := S.own.at (by omega)
        have hcell : ∀ j, j < ps.length → ∃ oa oc, wr.cell? ⟨bb, j, none⟩ = some (.slice oa (runsAt l a ps j).length oc) ∧ CellsAt wr oa ((runsAt l a ps j).map (Value.int .i64)) := fun j hj => by
          obtain ⟨oa, oc, h1, h2, _⟩ := S.row j hj
          exact ⟨oa, oc, hvals j _ h1, h2⟩
        have hps : CellsAt wr (some ⟨b, o, none⟩) (ps.map (Value.int .i64)) := hp.later hbw
        clear hvals S U_0 U_1 hr hp hNw
        obtain ⟨ws, hws⟩ : ∃ ws, ws = wr := ⟨wr, rfl⟩
        subst hws
        go_wp2_with fail
        go_loopw [11] (fun iv wr => ∃ i : Nat, i + W ≤ ps.length + 1 ∧ iv = .int .i64 i ∧ Below ws.heap.size ws wr ∧ Hid (∀ i' q', i' < i → q' < l.length → ∃ d, d < W ∧ skip l a ps q' (i' + d) = false)) (fun iv _ => ps.length + 1 - (intOf iv).toNat)
        case atStart => exact ⟨0, by omega, rfl, Below.refl _ _, hid (fun i' q' h => by omega)⟩
        case round =>
          obtain ⟨i, hiW, rfl, hbr, Hi⟩ := hrel
          by_cases hle : i + W ≤ ps.length
          · have hle' : (i : Int) + (W : Int) ≤ (ps.length : Int) := by omega
            go_wp2_with fail
            go_loopw [12] (fun kv wr => ∃ q : Nat, q ≤ l.length ∧ kv = .int .i64 q ∧ Below ws.heap.size ws wr ∧ Hid (∀ q', q' < q → ∃ d, d < W ∧ skip l a ps q' (i + d) = false)) (fun kv _ => l.length - (intOf kv).toNat)
            case atStart => exact ⟨0, by omega, rfl, hbr, hid (fun q' h => by omega)⟩
            case round =>
              clear hbr
              obtain ⟨q, hq, rfl, hbr, Hq⟩ := hrel
              have P_0r := cell_later hbr P_0
              by_cases hql : q < l.length
              · have hql' : (q : Int) < (l.length : Int) := by omega
                go_wp2_with fail
                go_loopw [13, 14] (fun av jv wr => ∃ (e : Nat) (al : Bool), i ≤ e ∧ e ≤ i + W ∧ av = .bool al ∧ jv = .int .i64 e ∧ Below ws.heap.size ws wr ∧ Hid (al = (List.range (e - i)).all fun d => can (runAt a ps l (i + d)).1 a q)) (fun _ jv _ => i + W - (intOf jv).toNat)
                case atStart => exact ⟨i, true, Nat.le_refl _, by omega, rfl, rfl, hbr, hid (by simp)⟩
                case round =>
                  clear hbr P_0r
                  obtain ⟨e, al, he1, he2, rfl, rfl, hbr, Hal⟩ := hrel
                  by_cases hlt2 : e < i + W
                  · have hlt2' : (e : Int) < (i : Int) + (W : Int) := by omega
                    have hep : e < ps.length := by omega
                    have hep' : (e : Int) < (ps.length : Int) := by omega
                    have hnext : ∀ y : Bool, y = (al && can (runAt a ps l e).1 a q) → y = (List.range (e + 1 - i)).all fun d => can (runAt a ps l (i + d)).1 a q := fun y hy => by
                      rw [hy, Hal.out, show e + 1 - i = (e - i) + 1 from by omega, List.range_succ, List.all_append]
                      simp [show i + (e - i) = e from by omega]
                    cases al with
                    | true =>
                      obtain ⟨oa, oc, x1, x2⟩ := hcell e hep
                      replace x1 := cell_later hbr x1
                      have hdec : decide ((q : Int) ∈ runsAt l a ps e) = can (runAt a ps l e).1 a q := by
                        rw [runsAt]
                        cases hc : can (runAt a ps l e).1 a q with
                        | true => simpa using mem_runs.2 ⟨hql, hc⟩
                        | false => rw [decide_eq_false_iff_not, mem_runs, hc]; simp
                      have hrn : (runsAt l a ps e).length ≤ 400 := by have := runs_len (runAt a ps l e).1 a l.length; unfold runsAt; omega
                      have H_hdec := hid hdec
                      clear hdec
                      have Hn := hid hnext
                      clear hnext
                      go_wp2_with fail
                      refine (has_any _ (runsAt l a ps e) (q : Int) oa oc _ rfl (x2.later hbr) hrn).mono ?_
                      rintro e9 w20 ⟨rfl, hc20⟩
                      rw [H_hdec.out]
                      have hb20 := bchain hbr hc20
                      clear hc20 x1
                      cases hcq : can (runAt a ps l e).1 a q with
                      | true =>
                        have Hcq := hid hcq
                        clear hcq
                        go_wp2_with fail
                        go_roundw
                        case rel => exact ⟨e + 1, true, by omega, by omega, rfl, by go_num, hb20, hid (Hn.out true (by rw [Hcq.out]; rfl))⟩
                        case measure => simp [intOf]; omega
                      | false =>
                        have Hcq := hid hcq
                        clear hcq
                        go_wp2_with fail
                        go_roundw
                        case rel => exact ⟨e + 1, false, by omega, by omega, rfl, by go_num, hb20, hid (Hn.out false (by rw [Hcq.out]; rfl))⟩
                        case measure => simp [intOf]; omega
                    | false =>
                      have Hn := hid hnext
                      clear hnext
                      go_wp2_with fail
                      go_roundw
                      case rel => exact ⟨e + 1, false, by omega, by omega, rfl, by go_num, hbr, hid (Hn.out false rfl)⟩
                      case measure => simp [intOf]; omega
                  · obtain rfl : e = i + W := by omega
                    have hlt2' : ¬ ((i + W : Nat) : Int) < (i : Int) + (W : Int) := by omega
                    have hWW : i + W - i = W := by omega
                    cases al with
                    | false =>
                      have hex : ∃ d, d < W ∧ skip l a ps q (i + d) = false := by
                        have h9 := Hal.out.symm
                        rw [hWW, List.all_eq_false] at h9
                        obtain ⟨d, hd1, hd2⟩ := h9
                        exact ⟨d, List.mem_range.1 hd1, by simp [skip, hd2]⟩
                      have Hex := hid hex
                      clear hex
                      go_wp2_with fail
                      go_roundw
                      case rel => exact ⟨q + 1, by omega, by go_num, hbr, hid (lt_step Hq.out Hex.out)⟩
                      case measure => simp [intOf]; omega
                    | true =>
                      have hcanall : ∀ d, d < W → can (runAt a ps l (i + d)).1 a q = true := fun d hd => by
                        have h9 := Hal.out.symm
                        rw [hWW, List.all_eq_true] at h9
                        exact h9 d (List.mem_range.2 hd)
                      have Hcan := hid hcanall
                      have hsl1 : (i : Int) ≤ (i : Int) + (W : Int) := by omega
                      have hsl2 : (i : Int) + (W : Int) ≤ (pc : Int) := by omega
                      have hwin : CellsAt wr (some ⟨b, o + i, none⟩) (((ps.drop i).take W).map (Value.int .i64)) := window_cells (hps.later hbr)
                      have hwl : ((ps.drop i).take W).length = W := by simp; omega
                      clear hcanall Hal
                      by_cases hmem : (q : Int) ∈ (ps.drop i).take W
                      · have hdm : decide ((q : Int) ∈ (ps.drop i).take W) = true := by simpa using hmem
                        have hex : ∃ d, d < W ∧ skip l a ps q (i + d) = false := by
                          obtain ⟨d, hd1, hd2⟩ := (window_mem hle).1 hmem
                          exact ⟨d, hd1, by simp [skip, hd2]⟩
                        have Hex := hid hex
                        have H_hdm := hid hdm
                        clear hdm
                        clear hex hmem
                        go_wp2_with fail
                        refine (has_any W ((ps.drop i).take W) (q : Int) _ (pc - i) _ hwl.symm hwin (by omega)).mono ?_
                        rintro e9 w20 ⟨rfl, hc20⟩
                        rw [H_hdm.out]
                        have hb20 := bchain hbr hc20
                        clear hc20
                        go_wp2_with fail
                        go_roundw
                        case rel => exact ⟨q + 1, by omega, by go_num, hb20, hid (lt_step Hq.out Hex.out)⟩
                        case measure => simp [intOf]; omega
                      · have hdm : decide ((q : Int) ∈ (ps.drop i).take W) = false := by simpa using hmem
                        have hfb : fairB l a ps W = false := fairB_no hle hql fun d hd => by
                          have h10 : ¬ g ps (i + d) = q := fun h => hmem ((window_mem hle).2 ⟨d, hd, h⟩)
                          simp [skip, Hcan.out d hd, h10]
                        have H_hdm := hid hdm
                        have H_hfb := hid hfb
                        clear hdm hfb
                        clear hmem
                        go_wp2_with fail
                        refine (has_any W ((ps.drop i).take W) (q : Int) _ (pc - i) _ hwl.symm hwin (by omega)).mono ?_
                        rintro e9 w20 ⟨rfl, hc20⟩
                        rw [H_hdm.out]
                        have hbf := bchain hbw (bchain hbr hc20)
                        clear hc20
                        go_wp2_with fail
                        go_ret2
                        exact ⟨by rw [← H_he.out, H_hfb.out]; rfl, (by repeat' (first | with_reducible exact hbf | with_reducible refine Below.drew ?_ | with_reducible refine below_drewN ?_ _ | with_reducible refine Below.alloc ?_ (by have := hbf.size; first | (simp; done) | (simp; omega) | omega) _ | with_reducible refine Below.setCell ?_ (by first | (simp; done) | (simp; omega) | omega) _))⟩
              · obtain rfl : q = l.length := by omega
                have hni : ∀ i' q', i' < i + 1 → q' < l.length → ∃ d, d < W ∧ skip l a ps q' (i' + d) = false := fun i' q' h1 h2 => by
                  by_cases h : i' < i
                  · exact Hi.out i' q' h h2
                  · obtain rfl : i' = i := by omega
                    exact Hq.out q' h2
                have Hni := hid hni
                clear hni Hi Hq
                go_wp2_with fail
                go_roundw
                case rel => exact ⟨i + 1, by omega, by go_num, hbr, Hni⟩
                case measure => simp [intOf]; omega
          · have hle' : ¬ (i : Int) + (W : Int) ≤ (ps.length : Int) := by omega
            have hfb : fairB l a ps W = true := fairB_yes fun i' k' h1 h2 => Hi.out i' k' (by omega) h2
            have H_hfb := hid hfb
            clear hfb
            clear Hi
            have hbf := bchain hbw hbr
            go_wp2_with fail
            go_ret2
            exact ⟨by rw [← H_he.out, H_hfb.out]; rfl, (by repeat' (first | with_reducible exact hbf | with_reducible refine Below.drew ?_ | with_reducible refine below_drewN ?_ _ | with_reducible refine Below.alloc ?_ (by have := hbf.size; first | (simp; done) | (simp; omega) | omega) _ | with_reducible refine Below.setCell ?_ (by first | (simp; done) | (simp; omega) | omega) _))⟩
  · have he : (false, (2 : Int)) = tkFair l a ps win := by simp [tkFair, h8]
    have H_h8 := hid h8
    have H_he := hid he
    clear h8 he
    go_enter Try.func26, Try.ntmps26
    have hb0 := Below.refl w.heap.size w
    go_wp2_with fail
    refine (rpicks_any l a ps la aa pa lc ac pc _ (hl.alloc _) (ha.alloc _) (hp.alloc _) hml).mono ?_
    rintro e w1 ⟨rfl, hc1⟩
    have hb1 : Below w.heap.size w w1 := bchain (by repeat' (first | with_reducible exact hb0 | with_reducible refine Below.drew ?_ | with_reducible refine below_drewN ?_ _ | with_reducible refine Below.alloc ?_ (by have := hb0.size; first | (simp; done) | (simp; omega) | omega) _ | with_reducible refine Below.setCell ?_ (by first | (simp; done) | (simp; omega) | omega) _)) hc1
    have P_0 : w1.cell? ⟨w.heap.size, 0, none⟩ = some (.slice la l.length lc) := (hc1.cell (p := ⟨w.heap.size, 0, none⟩) (by first | (simp; done) | (simp; omega))).trans (by first | (simp; done) | go_simp)
    have P_1 : w1.cell? ⟨w.heap.size, 1, none⟩ = some (.slice aa a.length ac) := (hc1.cell (p := ⟨w.heap.size, 1, none⟩) (by first | (simp; done) | (simp; omega))).trans (by first | (simp; done) | go_simp)
    have P_l : w.heap.size < w1.heap.size := Nat.lt_of_lt_of_le (by first | (simp; done) | (simp; omega)) hc1.size
    clear hc1 hb0
    rw [H_h8.out]
    go_wp2_with fail
    refine (rpicks_any l a ps la aa pa lc ac pc _ (hl.later hb1) (ha.later hb1) (hp.later hb1) hml).mono ?_
    rintro e w2 ⟨rfl, hc2⟩
    have hb2 : Below w.heap.size w w2 := bchain (by repeat' (first | with_reducible exact hb1 | with_reducible refine Below.drew ?_ | with_reducible refine below_drewN ?_ _ | with_reducible refine Below.alloc ?_ (by have := hb1.size; first | (simp; done) | (simp; omega) | omega) _ | with_reducible refine Below.setCell ?_ (by first | (simp; done) | (simp; omega) | omega) _)) hc2
    have hst2 : Below w1.heap.size w1 w2 := bchain (by repeat' (first | with_reducible exact Below.refl _ _ | with_reducible refine Below.drew ?_ | with_reducible refine below_drewN ?_ _ | with_reducible refine Below.alloc ?_ (by first | (simp; done) | (simp; omega) | omega) _ | with_reducible refine Below.setCell ?_ (by first | (simp; done) | (simp; omega) | omega) _)) hc2
    replace P_0 := cell_later hst2 P_0
    replace P_1 := cell_later hst2 P_1
    replace P_l := Nat.lt_of_lt_of_le P_l hst2.size
    clear hst2
    clear hc2 hb1
    rw [H_h8.out]
    go_wp2_with fail
    go_ret2
    exact ⟨by rw [← H_he.out]; rfl, (by repeat' (first | with_reducible exact hb2 | with_reducible refine Below.drew ?_ | with_reducible refine below_drewN ?_ _ | with_reducible refine Below.alloc ?_ (by have := hb2.size; first | (simp; done) | (simp; omega) | omega) _ | with_reducible refine Below.setCell ?_ (by first | (simp; done) | (simp; omega) | omega) _))⟩
  · have he : (false, (4 : Int)) = tkFair l a ps win := by simp [tkFair, h8]
    have H_h8 := hid h8
    have H_he := hid he
    clear h8 he
    go_enter Try.func26, Try.ntmps26
    have hb0 := Below.refl w.heap.size w
    go_wp2_with fail
    refine (rpicks_any l a ps la aa pa lc ac pc _ (hl.alloc _) (ha.alloc _) (hp.alloc _) hml).mono ?_
    rintro e w1 ⟨rfl, hc1⟩
    have hb1 : Below w.heap.size w w1 := bchain (by repeat' (first | with_reducible exact hb0 | with_reducible refine Below.drew ?_ | with_reducible refine below_drewN ?_ _ | with_reducible refine Below.alloc ?_ (by have := hb0.size; first | (simp; done) | (simp; omega) | omega) _ | with_reducible refine Below.setCell ?_ (by first | (simp; done) | (simp; omega) | omega) _)) hc1
    have P_0 : w1.cell? ⟨w.heap.size, 0, none⟩ = some (.slice la l.length lc) := (hc1.cell (p := ⟨w.heap.size, 0, none⟩) (by first | (simp; done) | (simp; omega))).trans (by first | (simp; done) | go_simp)
    have P_1 : w1.cell? ⟨w.heap.size, 1, none⟩ = some (.slice aa a.length ac) := (hc1.cell (p := ⟨w.heap.size, 1, none⟩) (by first | (simp; done) | (simp; omega))).trans (by first | (simp; done) | go_simp)
    have P_l : w.heap.size < w1.heap.size := Nat.lt_of_lt_of_le (by first | (simp; done) | (simp; omega)) hc1.size
    clear hc1 hb0
    rw [H_h8.out]
    go_wp2_with fail
    refine (rpicks_any l a ps la aa pa lc ac pc _ (hl.later hb1) (ha.later hb1) (hp.later hb1) hml).mono ?_
    rintro e w2 ⟨rfl, hc2⟩
    have hb2 : Below w.heap.size w w2 := bchain (by repeat' (first | with_reducible exact hb1 | with_reducible refine Below.drew ?_ | with_reducible refine below_drewN ?_ _ | with_reducible refine Below.alloc ?_ (by have := hb1.size; first | (simp; done) | (simp; omega) | omega) _ | with_reducible refine Below.setCell ?_ (by first | (simp; done) | (simp; omega) | omega) _)) hc2
    have hst2 : Below w1.heap.size w1 w2 := bchain (by repeat' (first | with_reducible exact Below.refl _ _ | with_reducible refine Below.drew ?_ | with_reducible refine below_drewN ?_ _ | with_reducible refine Below.alloc ?_ (by first | (simp; done) | (simp; omega) | omega) _ | with_reducible refine Below.setCell ?_ (by first | (simp; done) | (simp; omega) | omega) _)) hc2
    replace P_0 := cell_later hst2 P_0
    replace P_1 := cell_later hst2 P_1
    replace P_l := Nat.lt_of_lt_of_le P_l hst2.size
    clear hst2
    clear hc2 hb1
    rw [H_h8.out]
    go_wp2_with fail
    go_ret2
    exact ⟨by rw [← H_he.out]; rfl, (by repeat' (first | with_reducible exact hb2 | with_reducible refine Below.drew ?_ | with_reducible refine below_drewN ?_ _ | with_reducible refine Below.alloc ?_ (by have := hb2.size; first | (simp; done) | (simp; omega) | omega) _ | with_reducible refine Below.setCell ?_ (by first | (simp; done) | (simp; omega) | omega) _))⟩
  · have he : (false, (8 : Int)) = tkFair l a ps win := by simp [tkFair, h8]
    have H_h8 := hid h8
    have H_he := hid he
    clear h8 he
    go_enter Try.func26, Try.ntmps26
    have hb0 := Below.refl w.heap.size w
    go_wp2_with fail
    refine (rpicks_any l a ps la aa pa lc ac pc _ (hl.alloc _) (ha.alloc _) (hp.alloc _) hml).mono ?_
    rintro e w1 ⟨rfl, hc1⟩
    have hb1 : Below w.heap.size w w1 := bchain (by repeat' (first | with_reducible exact hb0 | with_reducible refine Below.drew ?_ | with_reducible refine below_drewN ?_ _ | with_reducible refine Below.alloc ?_ (by have := hb0.size; first | (simp; done) | (simp; omega) | omega) _ | with_reducible refine Below.setCell ?_ (by first | (simp; done) | (simp; omega) | omega) _)) hc1
    have P_0 : w1.cell? ⟨w.heap.size, 0, none⟩ = some (.slice la l.length lc) := (hc1.cell (p := ⟨w.heap.size, 0, none⟩) (by first | (simp; done) | (simp; omega))).trans (by first | (simp; done) | go_simp)
    have P_1 : w1.cell? ⟨w.heap.size, 1, none⟩ = some (.slice aa a.length ac) := (hc1.cell (p := ⟨w.heap.size, 1, none⟩) (by first | (simp; done) | (simp; omega))).trans (by first | (simp; done) | go_simp)
    have P_l : w.heap.size < w1.heap.size := Nat.lt_of_lt_of_le (by first | (simp; done) | (simp; omega)) hc1.size
    clear hc1 hb0
    rw [H_h8.out]
    go_wp2_with fail
    refine (rpicks_any l a ps la aa pa lc ac pc _ (hl.later hb1) (ha.later hb1) (hp.later hb1) hml).mono ?_
    rintro e w2 ⟨rfl, hc2⟩
    have hb2 : Below w.heap.size w w2 := bchain (by repeat' (first | with_reducible exact hb1 | with_reducible refine Below.drew ?_ | with_reducible refine below_drewN ?_ _ | with_reducible refine Below.alloc ?_ (by have := hb1.size; first | (simp; done) | (simp; omega) | omega) _ | with_reducible refine Below.setCell ?_ (by first | (simp; done) | (simp; omega) | omega) _)) hc2
    have hst2 : Below w1.heap.size w1 w2 := bchain (by repeat' (first | with_reducible exact Below.refl _ _ | with_reducible refine Below.drew ?_ | with_reducible refine below_drewN ?_ _ | with_reducible refine Below.alloc ?_ (by first | (simp; done) | (simp; omega) | omega) _ | with_reducible refine Below.setCell ?_ (by first | (simp; done) | (simp; omega) | omega) _)) hc2
    replace P_0 := cell_later hst2 P_0
    replace P_1 := cell_later hst2 P_1
    replace P_l := Nat.lt_of_lt_of_le P_l hst2.size
    clear hst2
    clear hc2 hb1
    rw [H_h8.out]
    go_wp2_with fail
    go_ret2
    exact ⟨by rw [← H_he.out]; rfl, (by repeat' (first | with_reducible exact hb2 | with_reducible refine Below.drew ?_ | with_reducible refine below_drewN ?_ _ | with_reducible refine Below.alloc ?_ (by have := hb2.size; first | (simp; done) | (simp; omega) | omega) _ | with_reducible refine Below.setCell ?_ (by first | (simp; done) | (simp; omega) | omega) _))⟩

end Go.Proofs.Ytoelndaeemlefaa
