/- The law LockAlone. -/
import Derived.Test.YtnkbbfeaodppgaaLockAloneP
namespace Go.Proofs.Ytnkbbfeaodppgaa
set_option linter.unusedSimpArgs false
set_option linter.unusedVariables false
set_option linter.unnecessarySimpa false
open Go.RowKit Go.Joins Go.ChangeShapes Go.WideShapes Go.ChangeAt

theorem open_ints14 {H : Type} {enc : TypeId × Value → H} {w : World} {r : Reach} {b0 base : Nat} {held : Bool} {v : Value} {d : DataW H} {p : List MemPlace}
    (hv : Value.okWide Try.prog w r b0 22 v) (h : DataW.Trod enc Try.prog w base (fun _ => true) held 22 v d p) :
    ∃ (a : Option Addr) (c : Nat) (xs : List Int), v = .slice a xs.length c ∧ CellsAt w a (xs.map (Value.int .i64)) := by
  obtain ⟨a0, l0, c0, rfl⟩ := okWide_slice Try.underlying22 hv
  obtain ⟨n, h⟩ := h
  obtain ⟨a, c, xs, e, hc, _, _⟩ := open_rowX Try.underlying22 Try.underlying3 (by kernel_rfl) h
  exact ⟨a, c, xs, e, hc⟩

structure ASt (w wr : World) (nb : Nat) (az : List Int) (W : Int) (rs : List Int) (q : Waits) (ra : Option Addr) (n c : Nat) (qa : Option Addr) (m d : Nat) : Prop where
  hb : Below w.heap.size w wr
  N : Blk wr nb 25 [.int .i64 W, .slice ra n c, .slice qa m d]
  A : Blk wr (nb + 1) 52 (az.map (Value.int .i64))
  L : LockIn wr rs q ra qa n m

theorem ask_f (W t : Int) (b : Bool) (rs : List Int) (q : Waits) (W' : Int) (rs' : List Int) (q' : Waits) (got : Bool) (er : Int) (ra qa : Option Addr) (rn rc qn qc m1 m2 : Nat) (w : World) (h : LockIn w rs q ra qa rn qn) (hmx : rn + qn ≤ 999999) (hr : askZ W rs q t b = ((W', rs', q'), got, er)) (h1 : m1 = rs'.length) (h2 : m2 = q'.length) :
    Calls Try.prog 15 #[.agg #[.int .i64 W, .slice ra rn rc, .slice qa qn qc], .int .i64 t, .bool b] w fun e w' =>
      ∃ a1 c1 a2 c2, e = .returned (.tuple #[.agg #[.int .i64 W', .slice a1 m1 c1, .slice a2 m2 c2], .bool got, .int .i64 er]) ∧ LockIn w' rs' q' a1 a2 m1 m2 ∧ (∀ B, B < w.heap.size → Far a1 B) ∧ (∀ B, B < w.heap.size → Far a2 B) ∧ Below w.heap.size w w' := by
  refine (Ask_any W t b rs q ra qa rn rc qn qc w h hmx).mono ?_
  rintro e w' ⟨a1, n1, c1, a2, n2, c2, rfl, hl, hb⟩
  rw [hr] at hl ⊢
  have e1 := hl.l.rlen
  have e2 := hl.l.qlen
  simp only at e1 e2
  rw [← h1] at e1; rw [← h2] at e2
  subst e1 e2
  exact ⟨a1, c1, a2, c2, rfl, hl.l, hl.f1, hl.f2, hb⟩
theorem leave_f (W t : Int) (rs : List Int) (q : Waits) (W' : Int) (rs' : List Int) (q' : Waits) (ts : List Int) (er : Int) (ra qa : Option Addr) (rn rc qn qc m1 m2 m3 : Nat) (w : World) (h : LockIn w rs q ra qa rn qn) (hmx : rn + qn ≤ 999999) (hr : leaveZ W rs q t = ((W', rs', q'), ts, er)) (h1 : m1 = rs'.length) (h2 : m2 = q'.length) (h3 : m3 = ts.length) :
    Calls Try.prog 17 #[.agg #[.int .i64 W, .slice ra rn rc, .slice qa qn qc], .int .i64 t] w fun e w' =>
      ∃ a1 c1 a2 c2 a3 c3, e = .returned (.tuple #[.agg #[.int .i64 W', .slice a1 m1 c1, .slice a2 m2 c2], .slice a3 m3 c3, .int .i64 er]) ∧ LockIn w' rs' q' a1 a2 m1 m2 ∧ CellsAt w' a3 (ts.map (Value.int .i64)) ∧ (∀ B, B < w.heap.size → Far a1 B) ∧ (∀ B, B < w.heap.size → Far a2 B) ∧ Below w.heap.size w w' := by
  refine (Leave_any W t rs q ra qa rn rc qn qc w h hmx).mono ?_
  rintro e w' ⟨a1, n1, c1, a2, n2, c2, a3, n3, c3, rfl, hl, hb⟩
  have f1 := hl.l.f1
  have f2 := hl.l.f2
  obtain ⟨rfl, rfl, rfl, k1, k2⟩ := out_r hl hr h1 h2 h3
  rw [hr]
  exact ⟨a1, c1, a2, c2, a3, c3, rfl, k1, k2, f1, f2, hb⟩
structure BSt (w W : World) (nb xb : Nat) (nc : List Value) (az : List Int) (W2 : Int) (rs2 : List Int) (q2 : Waits) (b1 : Option Addr) (e1 d1 : Nat) (b2 : Option Addr) (e2 d2 : Nat) : Prop where
  hb : Below w.heap.size w W
  N : Blk W nb 25 nc
  A : Blk W (nb + 1) 52 (az.map (Value.int .i64))
  X : Blk W xb 25 [.int .i64 W2, .slice b1 e1 d1, .slice b2 e2 d2]
  L : LockIn W rs2 q2 b1 b2 e1 e2

structure MSt (w W : World) (nb xb mb : Nat) (nc : List Value) (az : List Int) (W2 : Int) (rs2 : List Int) (q2 : Waits) (b1 : Option Addr) (e1 d1 : Nat) (b2 : Option Addr) (e2 d2 : Nat) : Prop where
  hb : Below w.heap.size w W
  N : Blk W nb 25 nc
  A : Blk W (nb + 1) 52 (az.map (Value.int .i64))
  X : Blk W xb 25 [.int .i64 0, .slice none 0 0, .slice none 0 0]
  M : Blk W mb 25 [.int .i64 W2, .slice b1 e1 d1, .slice b2 e2 d2]
  L : LockIn W rs2 q2 b1 b2 e1 e2

/-- The same without a second local. -/
structure PSt (w W : World) (nb xb : Nat) (nc : List Value) (az : List Int) (rs2 : List Int) (q2 : Waits) (b1 : Option Addr) (e1 : Nat) (b2 : Option Addr) (e2 : Nat) : Prop where
  hb : Below w.heap.size w W
  N : Blk W nb 25 nc
  A : Blk W (nb + 1) 52 (az.map (Value.int .i64))
  X : Blk W xb 25 [.int .i64 0, .slice none 0 0, .slice none 0 0]
  L : LockIn W rs2 q2 b1 b2 e1 e2
theorem PSt.of3 {w W : World} {nb xb : Nat} {nc : List Value} {az : List Int} {W2 : Int} {rs2 : List Int} {q2 : Waits} {b1 : Option Addr} {e1 d1 : Nat} {b2 : Option Addr} {e2 d2 : Nat} (v : Int) (h : PSt w W nb xb nc az rs2 q2 b1 e1 b2 e2) (hw : w.heap.size ≤ nb) (ne1 : ¬ (nb + 1 = xb)) (ne2 : ¬ (nb = xb)) (hx : w.heap.size ≤ xb) (f1 : Far b1 xb) (f2 : Far b2 xb) (g1 : Far b1 (nb + 1)) (g2 : Far b2 (nb + 1)) (tn : Nat) :
    BSt w ((((W.setCell ⟨xb, 0, none⟩ (.int .i64 W2)).setCell ⟨xb, 1, none⟩ (.slice b1 e1 d1)).setCell ⟨xb, 2, none⟩ (.slice b2 e2 d2)).setCell ⟨nb + 1, tn, none⟩ (.int .i64 v)) nb xb nc (az.set tn v) W2 rs2 q2 b1 e1 d1 b2 e2 d2 :=
  ⟨(((h.hb.setCell hx _).setCell hx _).setCell hx _).setCell (show w.heap.size ≤ nb + 1 by omega) _,
   ((((h.N.setFar (p := ⟨xb, 0, none⟩) ne2 _).setFar (p := ⟨xb, 1, none⟩) ne2 _).setFar (p := ⟨xb, 2, none⟩) ne2 _).setFar (p := ⟨nb + 1, tn, none⟩) (show nb ≠ nb + 1 by omega) _),
   (((h.A.setFar (p := ⟨xb, 0, none⟩) ne1 _).setFar (p := ⟨xb, 1, none⟩) ne1 _).setFar (p := ⟨xb, 2, none⟩) ne1 _).setI tn v,
   (((h.X.set 0 _).set 1 _).set 2 _).setFar (p := ⟨nb + 1, tn, none⟩) (fun e => ne1 e.symm) _,
   ⟨h.L.rlen, h.L.qlen, (h.L.rs.far3 f1).setFarG (p := ⟨nb + 1, tn, none⟩) g1 _, (h.L.qs.far3 f2).setFarG (p := ⟨nb + 1, tn, none⟩) g2 _, h.L.rmax, h.L.qmax⟩⟩
theorem BSt.again {w W : World} {nb xb : Nat} {nc : List Value} {az : List Int} {W2 : Int} {rs2 : List Int} {q2 : Waits} {b1 : Option Addr} {e1 d1 : Nat} {b2 : Option Addr} {e2 d2 : Nat} (h : BSt w W nb xb nc az W2 rs2 q2 b1 e1 d1 b2 e2 d2) (g1 : Far b1 (nb + 1)) (g2 : Far b2 (nb + 1)) (ne1 : ¬ (nb + 1 = xb)) (hw : w.heap.size ≤ nb) (tn : Nat) (v : Int) :
    BSt w (W.setCell ⟨nb + 1, tn, none⟩ (.int .i64 v)) nb xb nc (az.set tn v) W2 rs2 q2 b1 e1 d1 b2 e2 d2 :=
  ⟨h.hb.setCell (show w.heap.size ≤ nb + 1 by omega) _, h.N.setFar (p := ⟨nb + 1, tn, none⟩) (show nb ≠ nb + 1 by omega) _, h.A.setI tn v, h.X.setFar (p := ⟨nb + 1, tn, none⟩) (fun e => ne1 e.symm) _,
   ⟨h.L.rlen, h.L.qlen, h.L.rs.setFarG (p := ⟨nb + 1, tn, none⟩) g1 _, h.L.qs.setFarG (p := ⟨nb + 1, tn, none⟩) g2 _, h.L.rmax, h.L.qmax⟩⟩
theorem Blk.three {w : World} {mb t xb ab tn : Nat} {cs : List Value} {x y z u : Value} (h : Blk w mb t cs) (h1 : ¬ (mb = xb)) (h2 : ¬ (mb = ab)) : Blk ((((w.setCell ⟨xb, 0, none⟩ x).setCell ⟨xb, 1, none⟩ y).setCell ⟨xb, 2, none⟩ z).setCell ⟨ab, tn, none⟩ u) mb t cs :=
  (((h.setFar (p := ⟨xb, 0, none⟩) h1 _).setFar (p := ⟨xb, 1, none⟩) h1 _).setFar (p := ⟨xb, 2, none⟩) h1 _).setFar (p := ⟨ab, tn, none⟩) h2 _
theorem Blk.four {w : World} {mb t xb ab tn : Nat} {cs : List Value} {x y z u v : Value} (h : Blk w mb t cs) (h1 : ¬ (mb = xb)) (h2 : ¬ (mb = ab)) : Blk (((((w.setCell ⟨xb, 0, none⟩ x).setCell ⟨xb, 1, none⟩ y).setCell ⟨xb, 2, none⟩ z).setCell ⟨ab, tn, none⟩ u).setCell ⟨ab, tn, none⟩ v) mb t cs :=
  (h.three h1 h2).setFar (p := ⟨ab, tn, none⟩) h2 _

/- From the last check on: $1 what is asked then. -/
/- $1 what is asked, $2 its number, $3 what is asked then, $4 the facts. -/

set_option maxRecDepth 100000 in
set_option maxHeartbeats 4000000 in
theorem alone_walk (l : List Int) (la : Option Addr) (ln lc : Nat) (w : World) (hll : ln = l.length) (hl : CellsAt w la (l.map (Value.int .i64))) :
    Calls Try.prog 7 #[.slice la ln lc] w fun e w' =>
      e = .returned (.bool true) ∧ Below w.heap.size w w' := by
  by_cases h60 : 60 < ln
  · have h60I : (60 : Int) < (ln : Int) := by omega
    have H_hll := Box.mk hll
    clear hll
    go_enter Try.func7, Try.ntmps7
    have hb0 := Below.refl w.heap.size w
    go_wp2_with fail
    with_reducible refine (alive_any _).mono ?_
    rintro e w1 ⟨rfl, hc1⟩
    have hb1 : Below w.heap.size w w1 := bchain (by repeat' (first | with_reducible exact hb0 | with_reducible refine Below.drew ?_ | with_reducible refine below_drewN ?_ _ | with_reducible refine Below.alloc ?_ (by have := hb0.size; first | (simp; done) | (simp; omega) | omega) _ | with_reducible refine Below.setCell ?_ (by first | (simp; done) | (simp; omega) | omega) _)) hc1
    clear hc1 hb0
    go_wp2_with fail
    go_ret
    exact ⟨rfl, by repeat' (first | with_reducible exact hb1 | with_reducible refine Below.drew ?_ | with_reducible refine below_drewN ?_ _ | with_reducible refine Below.alloc ?_ (by have := hb1.size; first | (simp; done) | (simp; omega) | omega) _ | with_reducible refine Below.setCell ?_ (by first | (simp; done) | (simp; omega) | omega) _)⟩
  · have h60I : (ln : Int) ≤ 60 := by omega
    have hl60 : ln ≤ 60 := by omega
    clear h60
    have H_hll := Box.mk hll
    clear hll
    go_enter Try.func7, Try.ntmps7
    have hb0 := Below.refl w.heap.size w
    go_wp2_with fail
    with_reducible refine (alive_any _).mono ?_
    rintro e w1 ⟨rfl, hc1⟩
    have hb1 : Below w.heap.size w w1 := bchain (by repeat' (first | with_reducible exact hb0 | with_reducible refine Below.drew ?_ | with_reducible refine below_drewN ?_ _ | with_reducible refine Below.alloc ?_ (by have := hb0.size; first | (simp; done) | (simp; omega) | omega) _ | with_reducible refine Below.setCell ?_ (by first | (simp; done) | (simp; omega) | omega) _)) hc1
    clear hc1 hb0
    go_wp2_with fail
    with_reducible refine (New_any _).mono ?_
    rintro e w2 ⟨rfl, hc2⟩
    have hb2 : Below w.heap.size w w2 := bchain (by repeat' (first | with_reducible exact hb1 | with_reducible refine Below.drew ?_ | with_reducible refine below_drewN ?_ _ | with_reducible refine Below.alloc ?_ (by have := hb1.size; first | (simp; done) | (simp; omega) | omega) _ | with_reducible refine Below.setCell ?_ (by first | (simp; done) | (simp; omega) | omega) _)) hc2
    clear hc2 hb1
    go_wp2_with fail
    go_loopw [6] (fun i wr => ∃ az W1 rs1 q1 ra1 n c qa1 m d, ∃ j : Nat, j ≤ ln ∧ i = .int .i64 j ∧ ASt w wr w2.heap.size az W1 rs1 q1 ra1 n c qa1 m d ∧ Box (LV W1 rs1 q1 ∧ Asked az W1 rs1 q1)) (fun i _ => ln - (intOf i).toNat)
    case atStart =>
      exact ⟨List.replicate 12 0, -1, [], [], none, 0, 0, none, 0, 0, 0, Nat.zero_le _, rfl, ⟨(by repeat' (first | with_reducible exact hb2 | with_reducible refine Below.drew ?_ | with_reducible refine below_drewN ?_ _ | with_reducible refine Below.alloc ?_ (by have := hb2.size; first | (simp; done) | (simp; omega) | omega) _ | with_reducible refine Below.setCell ?_ (by first | (simp; done) | (simp; omega) | omega) _)), (Blk.new _ _ _ _ rfl).alloc _, Blk.newA _ _ _ _ _ (by simp) (by rfl), .empty _⟩, Box.mk ⟨lv_new, asked_new⟩⟩
    case round =>
      obtain ⟨az, W1, rs1, q1, ra1, n, c, qa1, m, d, j, hj, rfl, hS, HB⟩ := hrel
      obtain ⟨hbw, hN, hA, hL⟩ := hS
      have hwnb : w.heap.size ≤ w2.heap.size := hb2.size
      generalize w2.heap.size = nb at *
      by_cases hjl : j < ln
      · have hjI : (j : Int) < (ln : Int) := by omega
        obtain ⟨b0, o0, rfl, cl⟩ := (hl.later hbw).int (by have := H_hll.out; omega)
        replace cl := cl j (by have := H_hll.out; omega)
        obtain ⟨x, hx⟩ : ∃ x, l[j]?.getD 0 = x := ⟨_, rfl⟩
        rw [hx] at cl
        have H_hx := Box.mk hx
        clear hx
        by_cases hx0 : x < 0
        · go_wp2_with fail
          go_roundw
          case rel => exact ⟨az, W1, rs1, q1, ra1, n, c, qa1, m, d, j + 1, by omega, by first | rfl | go_num, ⟨hbw, hN, hA, hL⟩, HB⟩
          case measure => simp [intOf]; omega
        · by_cases hx24 : 24 ≤ x
          · have hx0' : 0 ≤ x := by omega
            go_wp2_with fail
            go_roundw
            case rel => exact ⟨az, W1, rs1, q1, ra1, n, c, qa1, m, d, j + 1, by omega, by first | rfl | go_num, ⟨hbw, hN, hA, hL⟩, HB⟩
            case measure => simp [intOf]; omega
          · have hx0' : 0 ≤ x := by omega
            have hx24' : x < 24 := by omega
            obtain ⟨tn, htn⟩ : ∃ tn : Nat, x % 12 = tn := ⟨(x % 12).toNat, by omega⟩
            have ht12 : tn < 12 := by omega
            have htI : (tn : Int) < 12 := by omega
            obtain ⟨y, hy⟩ : ∃ y, hasZ W1 rs1 q1 tn = y := ⟨_, rfl⟩
            obtain ⟨a, ha⟩ : ∃ a, modeOf W1 rs1 q1 tn = a := ⟨_, rfl⟩
            have hv := HB.out.1
            have hAs := HB.out.2
            have hlen := hv.len
            have hn12 : n ≤ 12 := by have := hL.rlen; omega
            have hm12 : m ≤ 12 := by have := hL.qlen; omega
            have hHo : holdsZ W1 rs1 q1 tn = (y, 0) := by unfold holdsZ; rw [hv.both (task_nat ht12), if_pos rfl, hy]
            have hH := fun wd h => Holds_any W1 tn rs1 q1 ra1 qa1 n c m d wd h
            rw [hHo] at hH
            have haz : az.length = 12 := hAs.1
            have haa : az[tn]?.getD 0 = a := (hAs.2 tn ht12).trans ha
            have hmh := mode_has (W := W1) (rs := rs1) (q := q1) (t := tn)
            rw [hy, ha] at hmh
            clear hlen HB
            have H_hHo := Box.mk hHo
            have H_hH := Box.mk hH
            have H_haz := Box.mk haz
            have H_haa := Box.mk haa
            have H_hv := Box.mk hv
            have H_hAs := Box.mk hAs
            have H_hy := Box.mk hy
            have H_ha := Box.mk ha
            clear hHo hH haz haa hv hAs hy ha
            obtain ⟨N_0, N_1, N_2, N_f0, N_f1, N_f2, N_l⟩ := blk3 hN
            go_wp2_with fail
            go_quiet (fail)
            go_wp2_with fail
            rw [htn]
            obtain ⟨bb, hbb⟩ : ∃ bb, decide (12 ≤ x) = bb := ⟨_, rfl⟩
            rw [hbb]
            have H_hbb := Box.mk hbb
            clear hbb
            have H_htn := Box.mk htn
            clear htn
            have hdr := fun k => below_drewN (Below.refl wr.heap.size wr) k
            with_reducible refine (H_hH.out _ (hL.later (hdr _))).mono ?_
            rintro e w11 ⟨rfl, hc11'⟩
            have hc11 := bchain (hdr _) hc11'
            have N11 := hN.later hc11
            have A11 := hA.later hc11
            have L11 := hL.later hc11
            have hb11 := bchain hbw hc11
            clear hN hA hL hc11 hc11' hdr hbw N_0 N_1 N_2 N_f0 N_f1 N_f2 N_l cl
            have ca := A11.cellI (j := tn) (by rw [H_haz.out]; exact ht12)
            have cf := A11.free tn
            rw [H_haa.out] at ca
            obtain ⟨N_0, N_1, N_2, N_f0, N_f1, N_f2, N_l⟩ := blk3 N11
            rcases hmh with ⟨rfl, rfl⟩ | ⟨hy0, rfl⟩ | ⟨rfl, hor⟩
            · cases bb with
              | true =>
                obtain ⟨W2, rs2, q2, got, hz, hv2, hgot, hAs2⟩ := ask_step (b := true) H_hv.out ht12 H_hy.out H_hAs.out
                have H_hAs3 : Box (Asked ((az.set tn 1).set tn 2) W2 rs2 q2) := Box.mk (by rw [List.set_set]; exact hAs2)
                obtain ⟨e1, he1⟩ : ∃ e1, e1 = rs2.length := ⟨_, rfl⟩
                obtain ⟨e2, he2⟩ : ∃ e2, e2 = q2.length := ⟨_, rfl⟩
                have hlen2 := hv2.len
                have he112 : e1 ≤ 12 := by omega
                have he212 : e2 ≤ 12 := by omega
                have hC := fun a1 c1 a2 c2 wd h => rCheck_any W2 rs2 q2 a1 a2 e1 c1 e2 c2 wd h
                rw [hv2.err] at hC
                clear hlen2
                have hWr : (W2 != -1) = false ∨ ((W2 != -1) = true ∧ e1 = 0) := by
                  rcases hv2.hw with e | ⟨e, e0⟩
                  · left; rw [e]; rfl
                  · right; exact ⟨bne_iff_ne.2 (taskB_ne e), by rw [he1, e0]; rfl⟩
                have H_hWr := Box.mk hWr
                clear hWr
                obtain ⟨y2, hy2⟩ : ∃ y2, hasZ W2 rs2 q2 tn = y2 := ⟨_, rfl⟩
                rw [hy2] at hgot
                subst hgot
                have hF := fun wd h => ask_f W1 tn true rs1 q1 W2 rs2 q2 _ 0 ra1 qa1 n c m d e1 e2 wd h (by omega) hz he1 he2
                have hR := fun a1 c1 a2 c2 wd h => rhas_any W2 tn rs2 q2 a1 a2 e1 c1 e2 c2 wd h
                rw [hy2] at hR
                have H_hz := Box.mk hz
                have H_hv2 := Box.mk hv2
                have H_hAs2 := Box.mk hAs2
                have H_he1 := Box.mk he1
                have H_he2 := Box.mk he2
                have H_hC := Box.mk hC
                have H_hF := Box.mk hF
                have H_hR := Box.mk hR
                have H_hy2 := Box.mk hy2
                clear hz hv2 hAs2 he1 he2 hC hF hR hy2
                go_wp2_with fail
                with_reducible refine (H_hF.out _ (L11.later (below_alloc _ _))).mono ?_
                rintro e w12 ⟨b1, d1, b2, d2, rfl, L12, fr1, fr2, hc12⟩
                have X12 := Blk.later (Blk.new w11 _ [.int .i64 0, .slice none 0 0, .slice none 0 0] _ rfl) hc12
                have hst := bchain (below_alloc w11 _) hc12
                have N12 := N11.later hst
                have A12 := A11.later hst
                have hb12w := bchain hb11 hst
                have nbl := N11.lt
                have abl := A11.lt
                have ne1 : ¬ (nb + 1 = w11.heap.size) := by omega
                have ne2 : ¬ (nb = w11.heap.size) := by omega
                have ne3 : ¬ (w11.heap.size = nb + 1) := by omega
                have ne4 : ¬ (w11.heap.size = nb) := by omega
                have xl : w11.heap.size < w12.heap.size := X12.lt
                have ca2 := cell_later hst ca
                have cf2 := A12.free tn
                clear N_0 N_1 N_2 N_f0 N_f1 N_f2 N_l N11 A11 L11 hst hc12 ca cf
                obtain ⟨N_0, N_1, N_2, N_f0, N_f1, N_f2, N_l⟩ := blk3 N12
                obtain ⟨X_0, X_1, X_2, X_f0, X_f1, X_f2, X_l⟩ := blk3 X12
                clear N_0 N_1 N_2 N_f0 N_f1 N_f2 N_l X_0 X_1 X_2 X_f0 X_f1 X_f2 X_l
                have f1n := fr1 nb (by simp; omega)
                have f2n := fr2 nb (by simp; omega)
                have f1a := fr1 (nb + 1) (by simp; omega)
                have f2a := fr2 (nb + 1) (by simp; omega)
                have f1x := fr1 w11.heap.size (by simp)
                have f2x := fr2 w11.heap.size (by simp)
                go_upto_region 19 with (fail)
                refine wp_facts (fun Wx => MSt w Wx nb w11.heap.size w12.heap.size [.int .i64 W1, .slice ra1 n c, .slice qa1 m d] az W2 rs2 q2 b1 e1 d1 b2 e2 d2) ⟨hb12w.alloc hb12w.size _, N12.alloc _, A12.alloc _, X12.alloc _, Blk.new _ _ _ _ rfl, L12.later (below_alloc _ _)⟩ ?_
                intro w13 hM
                have hwx : w.heap.size ≤ w11.heap.size := by omega
                have xm : ¬ (w12.heap.size = w11.heap.size) := by omega
                have xm2 : ¬ (w11.heap.size = w12.heap.size) := by omega
                have am : ¬ (w12.heap.size = nb + 1) := by omega
                have am2 : ¬ (nb + 1 = w12.heap.size) := by omega
                clear fr1 fr2 N12 A12 X12 L12 hb12w ca2 cf2
                generalize w11.heap.size = xb at *
                generalize w12.heap.size = mb at *
                obtain ⟨hb13, N13, A13, X13, M13, L13⟩ := hM
                have ca3 := A13.cellI (j := tn) (by rw [H_haz.out]; exact ht12)
                have cf3 := A13.free tn
                rw [H_haa.out] at ca3
                obtain ⟨X_0, X_1, X_2, X_f0, X_f1, X_f2, X_l⟩ := blk3 X13
                obtain ⟨M_0, M_1, M_2, M_f0, M_f1, M_f2, M_l⟩ := blk3 M13
                go_upto_region 22 with (fail)
                refine wp_facts (fun Wx => BSt w Wx nb xb [.int .i64 W1, .slice ra1 n c, .slice qa1 m d] ((az.set tn 1).set tn 2) W2 rs2 q2 b1 e1 d1 b2 e2 d2 ∧ Blk Wx mb 25 [.int .i64 W2, .slice b1 e1 d1, .slice b2 e2 d2]) ⟨(PSt.of3 1 ⟨hb13, N13, A13, X13, L13⟩ hwnb ne1 ne2 hwx f1x f2x f1a f2a tn).again f1a f2a ne1 hwnb tn 2, M13.four xm am⟩ ?_
                rintro w14 ⟨⟨hb14, N14, A14, X14, L14⟩, M14⟩
                clear hb13 N13 A13 X13 M13 L13 ca3 cf3 X_0 X_1 X_2 X_f0 X_f1 X_f2 X_l M_0 M_1 M_2 M_f0 M_f1 M_f2 M_l
                obtain ⟨M_0, M_1, M_2, M_f0, M_f1, M_f2, M_l⟩ := blk3 M14
                go_wp2_with fail
                with_reducible refine (H_hR.out b1 d1 b2 d2 _ L14).mono ?_
                rintro e w15 ⟨rfl, hc15⟩
                have hb15 := bchain hb14 hc15
                have N15 := N14.later hc15
                have A15 := A14.later hc15
                have X15 := X14.later hc15
                have L15 := L14.later hc15
                clear hb14 N14 A14 X14 L14 M14 M_0 M_1 M_2 M_f0 M_f1 M_f2 M_l hc15
                obtain ⟨X_0, X_1, X_2, X_f0, X_f1, X_f2, X_l⟩ := blk3 X15
                go_wp2_with fail
                with_reducible refine (H_hC.out b1 d1 b2 d2 _ L15).mono ?_
                rintro e w16 ⟨rfl, hc16⟩
                have hb16 := bchain hb15 hc16
                have N16 := N15.later hc16
                have A16 := A15.later hc16
                have X16 := X15.later hc16
                have L16 := L15.later hc16
                clear hb15 N15 A15 X15 L15 X_0 X_1 X_2 X_f0 X_f1 X_f2 X_l hc16
                obtain ⟨X_0, X_1, X_2, X_f0, X_f1, X_f2, X_l⟩ := blk3 X16
                obtain ⟨N_0, N_1, N_2, N_f0, N_f1, N_f2, N_l⟩ := blk3 N16
                have HN : Box (LV W2 rs2 q2 ∧ Asked (((az.set tn 1).set tn 2)) W2 rs2 q2) := Box.mk ⟨H_hv2.out, H_hAs3.out⟩
                rcases H_hWr.out with e | ⟨e, e0⟩
                · have hWr : (W2 != -1) = false := e
                  clear e
                  go_wp2_with fail
                  go_roundw
                  case rel =>
                    exact ⟨_, W2, rs2, q2, b1, e1, d1, b2, e2, d2, j + 1, by omega, by first | rfl | go_num, ⟨((hb16.setCell hwnb _).setCell hwnb _).setCell hwnb _, ((N16.set 0 _).set 1 _).set 2 _, ((A16.setFar (p := ⟨nb, 0, none⟩) (by simp) _).setFar (p := ⟨nb, 1, none⟩) (by simp) _).setFar (p := ⟨nb, 2, none⟩) (by simp) _, ⟨L16.rlen, L16.qlen, L16.rs.far3 f1n, L16.qs.far3 f2n, L16.rmax, L16.qmax⟩⟩, HN⟩
                  case measure => simp [intOf]; omega
                · have hWr : (W2 != -1) = true := e
                  clear e
                  have e1I : (e1 : Int) ≤ 0 := by omega
                  have e1N : ¬ 0 < e1 := by omega
                  clear e0
                  go_wp2_with fail
                  go_roundw
                  case rel =>
                    exact ⟨_, W2, rs2, q2, b1, e1, d1, b2, e2, d2, j + 1, by omega, by first | rfl | go_num, ⟨((hb16.setCell hwnb _).setCell hwnb _).setCell hwnb _, ((N16.set 0 _).set 1 _).set 2 _, ((A16.setFar (p := ⟨nb, 0, none⟩) (by simp) _).setFar (p := ⟨nb, 1, none⟩) (by simp) _).setFar (p := ⟨nb, 2, none⟩) (by simp) _, ⟨L16.rlen, L16.qlen, L16.rs.far3 f1n, L16.qs.far3 f2n, L16.rmax, L16.qmax⟩⟩, HN⟩
                  case measure => simp [intOf]; omega
              | false =>
                obtain ⟨W2, rs2, q2, got, hz, hv2, hgot, hAs2⟩ := ask_step (b := false) H_hv.out ht12 H_hy.out H_hAs.out
                have H_hAs3 : Box (Asked (az.set tn 1) W2 rs2 q2) := Box.mk hAs2
                obtain ⟨e1, he1⟩ : ∃ e1, e1 = rs2.length := ⟨_, rfl⟩
                obtain ⟨e2, he2⟩ : ∃ e2, e2 = q2.length := ⟨_, rfl⟩
                have hlen2 := hv2.len
                have he112 : e1 ≤ 12 := by omega
                have he212 : e2 ≤ 12 := by omega
                have hC := fun a1 c1 a2 c2 wd h => rCheck_any W2 rs2 q2 a1 a2 e1 c1 e2 c2 wd h
                rw [hv2.err] at hC
                clear hlen2
                have hWr : (W2 != -1) = false ∨ ((W2 != -1) = true ∧ e1 = 0) := by
                  rcases hv2.hw with e | ⟨e, e0⟩
                  · left; rw [e]; rfl
                  · right; exact ⟨bne_iff_ne.2 (taskB_ne e), by rw [he1, e0]; rfl⟩
                have H_hWr := Box.mk hWr
                clear hWr
                obtain ⟨y2, hy2⟩ : ∃ y2, hasZ W2 rs2 q2 tn = y2 := ⟨_, rfl⟩
                rw [hy2] at hgot
                subst hgot
                have hF := fun wd h => ask_f W1 tn false rs1 q1 W2 rs2 q2 _ 0 ra1 qa1 n c m d e1 e2 wd h (by omega) hz he1 he2
                have hR := fun a1 c1 a2 c2 wd h => rhas_any W2 tn rs2 q2 a1 a2 e1 c1 e2 c2 wd h
                rw [hy2] at hR
                have H_hz := Box.mk hz
                have H_hv2 := Box.mk hv2
                have H_hAs2 := Box.mk hAs2
                have H_he1 := Box.mk he1
                have H_he2 := Box.mk he2
                have H_hC := Box.mk hC
                have H_hF := Box.mk hF
                have H_hR := Box.mk hR
                have H_hy2 := Box.mk hy2
                clear hz hv2 hAs2 he1 he2 hC hF hR hy2
                go_wp2_with fail
                with_reducible refine (H_hF.out _ (L11.later (below_alloc _ _))).mono ?_
                rintro e w12 ⟨b1, d1, b2, d2, rfl, L12, fr1, fr2, hc12⟩
                have X12 := Blk.later (Blk.new w11 _ [.int .i64 0, .slice none 0 0, .slice none 0 0] _ rfl) hc12
                have hst := bchain (below_alloc w11 _) hc12
                have N12 := N11.later hst
                have A12 := A11.later hst
                have hb12w := bchain hb11 hst
                have nbl := N11.lt
                have abl := A11.lt
                have ne1 : ¬ (nb + 1 = w11.heap.size) := by omega
                have ne2 : ¬ (nb = w11.heap.size) := by omega
                have ne3 : ¬ (w11.heap.size = nb + 1) := by omega
                have ne4 : ¬ (w11.heap.size = nb) := by omega
                have xl : w11.heap.size < w12.heap.size := X12.lt
                have ca2 := cell_later hst ca
                have cf2 := A12.free tn
                clear N_0 N_1 N_2 N_f0 N_f1 N_f2 N_l N11 A11 L11 hst hc12 ca cf
                obtain ⟨N_0, N_1, N_2, N_f0, N_f1, N_f2, N_l⟩ := blk3 N12
                obtain ⟨X_0, X_1, X_2, X_f0, X_f1, X_f2, X_l⟩ := blk3 X12
                clear N_0 N_1 N_2 N_f0 N_f1 N_f2 N_l X_0 X_1 X_2 X_f0 X_f1 X_f2 X_l
                have f1n := fr1 nb (by simp; omega)
                have f2n := fr2 nb (by simp; omega)
                have f1a := fr1 (nb + 1) (by simp; omega)
                have f2a := fr2 (nb + 1) (by simp; omega)
                have f1x := fr1 w11.heap.size (by simp)
                have f2x := fr2 w11.heap.size (by simp)
                go_upto_region 19 with (fail)
                refine wp_facts (fun Wx => MSt w Wx nb w11.heap.size w12.heap.size [.int .i64 W1, .slice ra1 n c, .slice qa1 m d] az W2 rs2 q2 b1 e1 d1 b2 e2 d2) ⟨hb12w.alloc hb12w.size _, N12.alloc _, A12.alloc _, X12.alloc _, Blk.new _ _ _ _ rfl, L12.later (below_alloc _ _)⟩ ?_
                intro w13 hM
                have hwx : w.heap.size ≤ w11.heap.size := by omega
                have xm : ¬ (w12.heap.size = w11.heap.size) := by omega
                have xm2 : ¬ (w11.heap.size = w12.heap.size) := by omega
                have am : ¬ (w12.heap.size = nb + 1) := by omega
                have am2 : ¬ (nb + 1 = w12.heap.size) := by omega
                clear fr1 fr2 N12 A12 X12 L12 hb12w ca2 cf2
                generalize w11.heap.size = xb at *
                generalize w12.heap.size = mb at *
                obtain ⟨hb13, N13, A13, X13, M13, L13⟩ := hM
                have ca3 := A13.cellI (j := tn) (by rw [H_haz.out]; exact ht12)
                have cf3 := A13.free tn
                rw [H_haa.out] at ca3
                obtain ⟨X_0, X_1, X_2, X_f0, X_f1, X_f2, X_l⟩ := blk3 X13
                obtain ⟨M_0, M_1, M_2, M_f0, M_f1, M_f2, M_l⟩ := blk3 M13
                go_upto_region 22 with (fail)
                refine wp_facts (fun Wx => BSt w Wx nb xb [.int .i64 W1, .slice ra1 n c, .slice qa1 m d] (az.set tn 1) W2 rs2 q2 b1 e1 d1 b2 e2 d2 ∧ Blk Wx mb 25 [.int .i64 W2, .slice b1 e1 d1, .slice b2 e2 d2]) ⟨PSt.of3 1 ⟨hb13, N13, A13, X13, L13⟩ hwnb ne1 ne2 hwx f1x f2x f1a f2a tn, M13.three xm am⟩ ?_
                rintro w14 ⟨⟨hb14, N14, A14, X14, L14⟩, M14⟩
                clear hb13 N13 A13 X13 M13 L13 ca3 cf3 X_0 X_1 X_2 X_f0 X_f1 X_f2 X_l M_0 M_1 M_2 M_f0 M_f1 M_f2 M_l
                obtain ⟨M_0, M_1, M_2, M_f0, M_f1, M_f2, M_l⟩ := blk3 M14
                go_wp2_with fail
                with_reducible refine (H_hR.out b1 d1 b2 d2 _ L14).mono ?_
                rintro e w15 ⟨rfl, hc15⟩
                have hb15 := bchain hb14 hc15
                have N15 := N14.later hc15
                have A15 := A14.later hc15
                have X15 := X14.later hc15
                have L15 := L14.later hc15
                clear hb14 N14 A14 X14 L14 M14 M_0 M_1 M_2 M_f0 M_f1 M_f2 M_l hc15
                obtain ⟨X_0, X_1, X_2, X_f0, X_f1, X_f2, X_l⟩ := blk3 X15
                go_wp2_with fail
                with_reducible refine (H_hC.out b1 d1 b2 d2 _ L15).mono ?_
                rintro e w16 ⟨rfl, hc16⟩
                have hb16 := bchain hb15 hc16
                have N16 := N15.later hc16
                have A16 := A15.later hc16
                have X16 := X15.later hc16
                have L16 := L15.later hc16
                clear hb15 N15 A15 X15 L15 X_0 X_1 X_2 X_f0 X_f1 X_f2 X_l hc16
                obtain ⟨X_0, X_1, X_2, X_f0, X_f1, X_f2, X_l⟩ := blk3 X16
                obtain ⟨N_0, N_1, N_2, N_f0, N_f1, N_f2, N_l⟩ := blk3 N16
                have HN : Box (LV W2 rs2 q2 ∧ Asked ((az.set tn 1)) W2 rs2 q2) := Box.mk ⟨H_hv2.out, H_hAs3.out⟩
                rcases H_hWr.out with e | ⟨e, e0⟩
                · have hWr : (W2 != -1) = false := e
                  clear e
                  go_wp2_with fail
                  go_roundw
                  case rel =>
                    exact ⟨_, W2, rs2, q2, b1, e1, d1, b2, e2, d2, j + 1, by omega, by first | rfl | go_num, ⟨((hb16.setCell hwnb _).setCell hwnb _).setCell hwnb _, ((N16.set 0 _).set 1 _).set 2 _, ((A16.setFar (p := ⟨nb, 0, none⟩) (by simp) _).setFar (p := ⟨nb, 1, none⟩) (by simp) _).setFar (p := ⟨nb, 2, none⟩) (by simp) _, ⟨L16.rlen, L16.qlen, L16.rs.far3 f1n, L16.qs.far3 f2n, L16.rmax, L16.qmax⟩⟩, HN⟩
                  case measure => simp [intOf]; omega
                · have hWr : (W2 != -1) = true := e
                  clear e
                  have e1I : (e1 : Int) ≤ 0 := by omega
                  have e1N : ¬ 0 < e1 := by omega
                  clear e0
                  go_wp2_with fail
                  go_roundw
                  case rel =>
                    exact ⟨_, W2, rs2, q2, b1, e1, d1, b2, e2, d2, j + 1, by omega, by first | rfl | go_num, ⟨((hb16.setCell hwnb _).setCell hwnb _).setCell hwnb _, ((N16.set 0 _).set 1 _).set 2 _, ((A16.setFar (p := ⟨nb, 0, none⟩) (by simp) _).setFar (p := ⟨nb, 1, none⟩) (by simp) _).setFar (p := ⟨nb, 2, none⟩) (by simp) _, ⟨L16.rlen, L16.qlen, L16.rs.far3 f1n, L16.qs.far3 f2n, L16.rmax, L16.qmax⟩⟩, HN⟩
                  case measure => simp [intOf]; omega
            · have hyne : (a == 0) = false := beq_eq_false_iff_ne.2 (by omega)
              have hyn : ¬ (a = 0) := by omega
              obtain ⟨W2, rs2, q2, ts, hz, hv2, hAs2⟩ := free_step2 H_hv.out ht12 (by rw [H_hy.out]; exact hy0) H_hAs.out
              obtain ⟨e1, he1⟩ : ∃ e1, e1 = rs2.length := ⟨_, rfl⟩
              obtain ⟨e2, he2⟩ : ∃ e2, e2 = q2.length := ⟨_, rfl⟩
              have hlen2 := hv2.len
              have he112 : e1 ≤ 12 := by omega
              have he212 : e2 ≤ 12 := by omega
              have hC := fun a1 c1 a2 c2 wd h => rCheck_any W2 rs2 q2 a1 a2 e1 c1 e2 c2 wd h
              rw [hv2.err] at hC
              clear hlen2
              have hWr : (W2 != -1) = false ∨ ((W2 != -1) = true ∧ e1 = 0) := by
                rcases hv2.hw with e | ⟨e, e0⟩
                · left; rw [e]; rfl
                · right; exact ⟨bne_iff_ne.2 (taskB_ne e), by rw [he1, e0]; rfl⟩
              have H_hWr := Box.mk hWr
              clear hWr
              obtain ⟨e3, he3⟩ : ∃ e3, e3 = ts.length := ⟨_, rfl⟩
              have hF := fun wd h => free_f W1 tn rs1 q1 W2 rs2 q2 ts 0 ra1 qa1 n c m d e1 e2 e3 wd h (by omega) hz he1 he2 he3
              have H_hAs3 : Box (Asked (az.set tn 0) W2 rs2 q2) := Box.mk hAs2
              have H_hz := Box.mk hz
              have H_hv2 := Box.mk hv2
              have H_hAs2 := Box.mk hAs2
              have H_he1 := Box.mk he1
              have H_he2 := Box.mk he2
              have H_he3 := Box.mk he3
              have H_hC := Box.mk hC
              have H_hF := Box.mk hF
              clear hz hv2 hAs2 he1 he2 he3 hC hF
              go_wp2_with fail
              with_reducible refine (H_hF.out _ (L11.later (below_alloc _ _))).mono ?_
              rintro e w13 ⟨b1, d1, b2, d2, b3, d3, rfl, L13, _, fr1, fr2, hc13⟩
              have X13 := Blk.later (Blk.new w11 _ [.int .i64 0, .slice none 0 0, .slice none 0 0] _ rfl) hc13
              have hst := bchain (below_alloc w11 _) hc13
              have N13 := N11.later hst
              have A13 := A11.later hst
              have hb13 := bchain hb11 hst
              have nbl := N11.lt
              have abl := A11.lt
              have ne1 : ¬ (nb + 1 = w11.heap.size) := by omega
              have ne2 : ¬ (nb = w11.heap.size) := by omega
              have ne3 : ¬ (w11.heap.size = nb + 1) := by omega
              have ne4 : ¬ (w11.heap.size = nb) := by omega
              have hwx : w.heap.size ≤ w11.heap.size := by omega
              have f1n := fr1 nb (by simp; omega)
              have f2n := fr2 nb (by simp; omega)
              have f1a := fr1 (nb + 1) (by simp; omega)
              have f2a := fr2 (nb + 1) (by simp; omega)
              have f1x := fr1 w11.heap.size (by simp)
              have f2x := fr2 w11.heap.size (by simp)
              have ca3 := cell_later hst ca
              have cf3 := A13.free tn
              clear fr1 fr2 N_0 N_1 N_2 N_f0 N_f1 N_f2 N_l N11 A11 L11 hst hc13 ca cf hb11
              obtain ⟨X_0, X_1, X_2, X_f0, X_f1, X_f2, X_l⟩ := blk3 X13
              generalize w11.heap.size = xb at *
              go_upto_region 27 with (fail)
              refine wp_facts (fun Wx => BSt w Wx nb xb [.int .i64 W1, .slice ra1 n c, .slice qa1 m d] (az.set tn 0) W2 rs2 q2 b1 e1 d1 b2 e2 d2) (PSt.of3 0 ⟨hb13, N13, A13, X13, L13⟩ hwnb ne1 ne2 hwx f1x f2x f1a f2a tn) ?_
              rintro w15 ⟨hb15, N15, A15, X15, L15⟩
              clear hb13 N13 A13 X13 L13 ca3 cf3 X_0 X_1 X_2 X_f0 X_f1 X_f2 X_l
              obtain ⟨X_0, X_1, X_2, X_f0, X_f1, X_f2, X_l⟩ := blk3 X15
              go_wp2_with fail
              with_reducible refine (H_hC.out b1 d1 b2 d2 _ L15).mono ?_
              rintro e w16 ⟨rfl, hc16⟩
              have hb16 := bchain hb15 hc16
              have N16 := N15.later hc16
              have A16 := A15.later hc16
              have X16 := X15.later hc16
              have L16 := L15.later hc16
              clear hb15 N15 A15 X15 L15 X_0 X_1 X_2 X_f0 X_f1 X_f2 X_l hc16
              obtain ⟨X_0, X_1, X_2, X_f0, X_f1, X_f2, X_l⟩ := blk3 X16
              obtain ⟨N_0, N_1, N_2, N_f0, N_f1, N_f2, N_l⟩ := blk3 N16
              have HN : Box (LV W2 rs2 q2 ∧ Asked ((az.set tn 0)) W2 rs2 q2) := Box.mk ⟨H_hv2.out, H_hAs3.out⟩
              rcases H_hWr.out with e | ⟨e, e0⟩
              · have hWr : (W2 != -1) = false := e
                clear e
                go_wp2_with fail
                go_roundw
                case rel =>
                  exact ⟨_, W2, rs2, q2, b1, e1, d1, b2, e2, d2, j + 1, by omega, by first | rfl | go_num, ⟨((hb16.setCell hwnb _).setCell hwnb _).setCell hwnb _, ((N16.set 0 _).set 1 _).set 2 _, ((A16.setFar (p := ⟨nb, 0, none⟩) (by simp) _).setFar (p := ⟨nb, 1, none⟩) (by simp) _).setFar (p := ⟨nb, 2, none⟩) (by simp) _, ⟨L16.rlen, L16.qlen, L16.rs.far3 f1n, L16.qs.far3 f2n, L16.rmax, L16.qmax⟩⟩, HN⟩
                case measure => simp [intOf]; omega
              · have hWr : (W2 != -1) = true := e
                clear e
                have e1I : (e1 : Int) ≤ 0 := by omega
                have e1N : ¬ 0 < e1 := by omega
                clear e0
                go_wp2_with fail
                go_roundw
                case rel =>
                  exact ⟨_, W2, rs2, q2, b1, e1, d1, b2, e2, d2, j + 1, by omega, by first | rfl | go_num, ⟨((hb16.setCell hwnb _).setCell hwnb _).setCell hwnb _, ((N16.set 0 _).set 1 _).set 2 _, ((A16.setFar (p := ⟨nb, 0, none⟩) (by simp) _).setFar (p := ⟨nb, 1, none⟩) (by simp) _).setFar (p := ⟨nb, 2, none⟩) (by simp) _, ⟨L16.rlen, L16.qlen, L16.rs.far3 f1n, L16.qs.far3 f2n, L16.rmax, L16.qmax⟩⟩, HN⟩
                case measure => simp [intOf]; omega
            · have hane : (a == 0) = false := by rcases hor with rfl | rfl <;> rfl
              obtain ⟨W2, rs2, q2, ts, hz, hv2, hAs2⟩ := leave_step H_hv.out ht12 H_hy.out H_hAs.out
              clear hor
              obtain ⟨e1, he1⟩ : ∃ e1, e1 = rs2.length := ⟨_, rfl⟩
              obtain ⟨e2, he2⟩ : ∃ e2, e2 = q2.length := ⟨_, rfl⟩
              have hlen2 := hv2.len
              have he112 : e1 ≤ 12 := by omega
              have he212 : e2 ≤ 12 := by omega
              have hC := fun a1 c1 a2 c2 wd h => rCheck_any W2 rs2 q2 a1 a2 e1 c1 e2 c2 wd h
              rw [hv2.err] at hC
              clear hlen2
              have hWr : (W2 != -1) = false ∨ ((W2 != -1) = true ∧ e1 = 0) := by
                rcases hv2.hw with e | ⟨e, e0⟩
                · left; rw [e]; rfl
                · right; exact ⟨bne_iff_ne.2 (taskB_ne e), by rw [he1, e0]; rfl⟩
              have H_hWr := Box.mk hWr
              clear hWr
              obtain ⟨e3, he3⟩ : ∃ e3, e3 = ts.length := ⟨_, rfl⟩
              have hF := fun wd h => leave_f W1 tn rs1 q1 W2 rs2 q2 ts 0 ra1 qa1 n c m d e1 e2 e3 wd h (by omega) hz he1 he2 he3
              have H_hAs3 : Box (Asked (az.set tn 0) W2 rs2 q2) := Box.mk hAs2
              have H_hz := Box.mk hz
              have H_hv2 := Box.mk hv2
              have H_hAs2 := Box.mk hAs2
              have H_he1 := Box.mk he1
              have H_he2 := Box.mk he2
              have H_he3 := Box.mk he3
              have H_hC := Box.mk hC
              have H_hF := Box.mk hF
              clear hz hv2 hAs2 he1 he2 he3 hC hF
              go_wp2_with fail
              with_reducible refine (H_hF.out _ (L11.later (below_alloc _ _))).mono ?_
              rintro e w13 ⟨b1, d1, b2, d2, b3, d3, rfl, L13, _, fr1, fr2, hc13⟩
              have X13 := Blk.later (Blk.new w11 _ [.int .i64 0, .slice none 0 0, .slice none 0 0] _ rfl) hc13
              have hst := bchain (below_alloc w11 _) hc13
              have N13 := N11.later hst
              have A13 := A11.later hst
              have hb13 := bchain hb11 hst
              have nbl := N11.lt
              have abl := A11.lt
              have ne1 : ¬ (nb + 1 = w11.heap.size) := by omega
              have ne2 : ¬ (nb = w11.heap.size) := by omega
              have ne3 : ¬ (w11.heap.size = nb + 1) := by omega
              have ne4 : ¬ (w11.heap.size = nb) := by omega
              have hwx : w.heap.size ≤ w11.heap.size := by omega
              have f1n := fr1 nb (by simp; omega)
              have f2n := fr2 nb (by simp; omega)
              have f1a := fr1 (nb + 1) (by simp; omega)
              have f2a := fr2 (nb + 1) (by simp; omega)
              have f1x := fr1 w11.heap.size (by simp)
              have f2x := fr2 w11.heap.size (by simp)
              have ca3 := cell_later hst ca
              have cf3 := A13.free tn
              clear fr1 fr2 N_0 N_1 N_2 N_f0 N_f1 N_f2 N_l N11 A11 L11 hst hc13 ca cf hb11
              obtain ⟨X_0, X_1, X_2, X_f0, X_f1, X_f2, X_l⟩ := blk3 X13
              generalize w11.heap.size = xb at *
              go_upto_region 27 with (fail)
              refine wp_facts (fun Wx => BSt w Wx nb xb [.int .i64 W1, .slice ra1 n c, .slice qa1 m d] (az.set tn 0) W2 rs2 q2 b1 e1 d1 b2 e2 d2) (PSt.of3 0 ⟨hb13, N13, A13, X13, L13⟩ hwnb ne1 ne2 hwx f1x f2x f1a f2a tn) ?_
              rintro w15 ⟨hb15, N15, A15, X15, L15⟩
              clear hb13 N13 A13 X13 L13 ca3 cf3 X_0 X_1 X_2 X_f0 X_f1 X_f2 X_l
              obtain ⟨X_0, X_1, X_2, X_f0, X_f1, X_f2, X_l⟩ := blk3 X15
              go_wp2_with fail
              with_reducible refine (H_hC.out b1 d1 b2 d2 _ L15).mono ?_
              rintro e w16 ⟨rfl, hc16⟩
              have hb16 := bchain hb15 hc16
              have N16 := N15.later hc16
              have A16 := A15.later hc16
              have X16 := X15.later hc16
              have L16 := L15.later hc16
              clear hb15 N15 A15 X15 L15 X_0 X_1 X_2 X_f0 X_f1 X_f2 X_l hc16
              obtain ⟨X_0, X_1, X_2, X_f0, X_f1, X_f2, X_l⟩ := blk3 X16
              obtain ⟨N_0, N_1, N_2, N_f0, N_f1, N_f2, N_l⟩ := blk3 N16
              have HN : Box (LV W2 rs2 q2 ∧ Asked ((az.set tn 0)) W2 rs2 q2) := Box.mk ⟨H_hv2.out, H_hAs3.out⟩
              rcases H_hWr.out with e | ⟨e, e0⟩
              · have hWr : (W2 != -1) = false := e
                clear e
                go_wp2_with fail
                go_roundw
                case rel =>
                  exact ⟨_, W2, rs2, q2, b1, e1, d1, b2, e2, d2, j + 1, by omega, by first | rfl | go_num, ⟨((hb16.setCell hwnb _).setCell hwnb _).setCell hwnb _, ((N16.set 0 _).set 1 _).set 2 _, ((A16.setFar (p := ⟨nb, 0, none⟩) (by simp) _).setFar (p := ⟨nb, 1, none⟩) (by simp) _).setFar (p := ⟨nb, 2, none⟩) (by simp) _, ⟨L16.rlen, L16.qlen, L16.rs.far3 f1n, L16.qs.far3 f2n, L16.rmax, L16.qmax⟩⟩, HN⟩
                case measure => simp [intOf]; omega
              · have hWr : (W2 != -1) = true := e
                clear e
                have e1I : (e1 : Int) ≤ 0 := by omega
                have e1N : ¬ 0 < e1 := by omega
                clear e0
                go_wp2_with fail
                go_roundw
                case rel =>
                  exact ⟨_, W2, rs2, q2, b1, e1, d1, b2, e2, d2, j + 1, by omega, by first | rfl | go_num, ⟨((hb16.setCell hwnb _).setCell hwnb _).setCell hwnb _, ((N16.set 0 _).set 1 _).set 2 _, ((A16.setFar (p := ⟨nb, 0, none⟩) (by simp) _).setFar (p := ⟨nb, 1, none⟩) (by simp) _).setFar (p := ⟨nb, 2, none⟩) (by simp) _, ⟨L16.rlen, L16.qlen, L16.rs.far3 f1n, L16.qs.far3 f2n, L16.rmax, L16.qmax⟩⟩, HN⟩
                case measure => simp [intOf]; omega
      · have hjI : (ln : Int) ≤ (j : Int) := by omega
        go_wp2_with fail
        go_ret
        exact ⟨rfl, hbw⟩

theorem alone_full (la : Option Addr) (lc : Nat) (l : List Int) (w : World) (hl : CellsAt w la (l.map (Value.int .i64))) :
    Calls Try.prog 7 #[.slice la l.length lc] w fun e w' =>
      e = .returned (.bool true) ∧ Below w.heap.size w w' := alone_walk l la l.length lc w rfl hl

end Go.Proofs.Ytnkbbfeaodppgaa
