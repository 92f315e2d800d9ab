/- The reference's granted. -/
import Derived.Test.YtnkbbfeaodppgaaLockRTw
import Derived.BigRegion
namespace Go.Proofs.Ytnkbbfeaodppgaa
set_option linter.unusedSimpArgs false
set_option linter.unusedVariables false
set_option linter.unnecessarySimpa false
open Go.RowKit

structure RSt (w wr : World) (base mb qb T : Nat) (W : Int) (rs : List Int) (q : Waits) (out : List Int) (ra : Option Addr) (n c : Nat) (qa : Option Addr) (m d : Nat) (sa : Option Addr) (k e : Nat) : Prop where
  hb : Below w.heap.size w wr
  R : Blk wr (w.heap.size + 1) 25 [.int .i64 0, .slice none 0 0, .slice none 0 0]
  M : Blk wr mb 25 [.int .i64 W, .slice ra n c, .slice qa m d]
  rs : OwnX wr base 3 1 (.slice ra n c) n (rs.map (Value.int .i64))
  q : CellsAt wr qa (celW q)
  qbk : ∀ ad, qa = some ad → ad.block = qb
  out : OwnX wr (mb + 1) 3 1 (.slice sa k e) k (out.map (Value.int .i64))
  f1 : Far ra mb
  f2 : Far ra qb
  f3 : ∀ bd, sa = some bd → Far ra bd.block
  md : m ≤ d
  n1 : n + m ≤ 1000000
  k1 : k + m = T
/-- Behind a region. -/
structure RMid (w W : World) (base mb tb : Nat) (W1 : Int) (rs : List Int) (q : Waits) (out : List Int) (ra : Option Addr) (n c : Nat) (qa : Option Addr) (m d : Nat) (sa : Option Addr) (k e : Nat) (t : Int) (b0 : Bool) : Prop where
  hb : Below w.heap.size w W
  R : Blk W (w.heap.size + 1) 25 [.int .i64 0, .slice none 0 0, .slice none 0 0]
  M : Blk W mb 25 [.int .i64 W1, .slice ra n c, .slice qa m d]
  T : Blk W tb 34 [.int .i64 t, .bool b0]
  rs : OwnX W base 3 1 (.slice ra n c) n (rs.map (Value.int .i64))
  q : CellsAt W qa (celW q)
  out : OwnX W (mb + 1) 3 1 (.slice sa k e) k (out.map (Value.int .i64))
theorem far_own {a : Option Addr} {n c B : Nat} (h : Far a B) : (Value.slice a n c).ownBlock ≠ some B := fun e => own_not h e.symm

/- $1 the rest's address, $2 its length, $3 its capacity. -/

set_option maxRecDepth 100000 in
set_option maxHeartbeats 4000000 in
theorem granted_any (W : Int) (rs : List Int) (q : Waits) (ra qa : Option Addr) (rn rc qn qc : Nat) (w : World) (h : LockIn w rs q ra qa rn qn) (hmx : rn + qn ≤ 1000000) (hwq : Wq rs q) :
    Calls Try.prog 37 #[.agg #[.int .i64 W, .slice ra rn rc, .slice qa qn qc]] w fun e w' =>
      ∃ a1 n1 c1 a2 n2 c2 a3 n3 c3, e = .returned (.tuple #[.agg #[.int .i64 (grantP W rs q).1, .slice a1 n1 c1, .slice a2 n2 c2], .slice a3 n3 c3]) ∧ FreeOut w.heap.size w' (lkOf (grantP W rs q), (grantP W rs q).2.2.2, 0) a1 n1 a2 n2 a3 n3 ∧ Below w.heap.size w w' := by
  obtain ⟨i0, hi, hz0, hz1, hz2⟩ := info_parts info_i64
  obtain ⟨res, hres⟩ : ∃ res, grantP W rs q = res := ⟨_, rfl⟩
  rw [hres]
  have hGr : grantP W rs q = appR [] (grantP W rs q) := rfl
  have hql := h.qlen
  have H_h := Box.mk h
  have H_hres := Box.mk hres
  have H_hwq := Box.mk hwq
  have H_hGr := Box.mk hGr
  have H_hql := Box.mk hql
  clear h hres hwq hGr hql
  go_enter Try.func37, Try.ntmps37
  have hb0 := Below.refl w.heap.size w
  go_wp2_with fail
  with_reducible refine (rtwin_own W rs q ra qa rn rc qn qc _ (H_h.out.later (below_alloc2 _ _ _))).mono ?_
  rintro e w1 ⟨a1, c1, a2, c2, rfl, o1, hc1⟩
  have R1 : Blk w1 (w.heap.size + 1) 25 [.int .i64 0, .slice none 0 0, .slice none 0 0] := Blk.later (Blk.newA _ _ _ _ [.int .i64 0, .slice none 0 0, .slice none 0 0] (by simp) (by rfl)) hc1
  have hb1 := bchain (below_alloc2 w _ _) hc1
  have hz1' := hc1.size
  simp only [World.size_alloc] at hz1'
  have ors := o1.rs.mono (base' := w.heap.size + 2) (by simp)
  have oqs := o1.qs.mono (base' := w.heap.size + 2) (by simp)
  have hnc : qn ≤ c2 := by obtain ⟨_, _, e0, h0, _⟩ := oqs.cells; cases e0; exact h0
  obtain ⟨qb, hqb, hqlt, hfq, hqw⟩ : ∃ qb, (∀ ad, a2 = some ad → ad.block = qb) ∧ qb < w1.heap.size ∧ Far a1 qb ∧ w.heap.size ≤ qb ∧ qb ≠ w.heap.size + 1 := by
    cases ha2 : a2 with
    | none => exact ⟨w.heap.size, fun ad e => (by cases e), by omega, fun ad e => by have := (ors.addr ad e).1; omega, by omega, by omega⟩
    | some bd =>
      subst ha2
      have := oqs.addr bd rfl
      exact ⟨bd.block, fun ad e => (by cases e; rfl), this.2, fun ad e => ((ors.typed oqs (by decide)) ad bd e rfl).symm, by omega, by omega⟩
  have hqw2 := hqw.2
  replace hqw := hqw.1
  clear o1 hc1
  go_wp2_with fail
  go_loopw [5] (fun s wr => ∃ W1 rs1 q1 o1 rb n c qb1 m d sa k e, s = .slice sa k e ∧ RSt w wr (w.heap.size + 2) w1.heap.size qb qn W1 rs1 q1 o1 rb n c qb1 m d sa k e ∧ Box (grantP W rs q = appR o1 (grantP W1 rs1 q1) ∧ Wq rs1 q1 ∧ m = q1.length)) (fun s _ => qn - lenS s)
  case atStart =>
    exact ⟨W, rs, q, [], a1, rn, c1, a2, qn, c2, none, 0, 0, rfl, ⟨hb1.alloc hb1.size _, R1.alloc _, Blk.new _ _ _ _ rfl, ors.alloc _, oqs.cellsAt.alloc _, hqb, OwnX.nil _ _ _ _, fun ad e => Nat.ne_of_lt (ors.addr ad e).2, hfq, fun bd e => (by cases e), hnc, hmx, by omega⟩, Box.mk ⟨H_hGr.out, H_hwq.out, H_hql.out⟩⟩
  case round =>
    obtain ⟨W1, rs1, q1, o1, ra1, n, c, qa1, m, d, sa, k, e1, rfl, hS, HB⟩ := hrel
    clear R1 ors oqs hqb hfq
    have hbs : w.heap.size + 1 < w.heap.size + 2 := by omega
    have hbm : w.heap.size + 2 ≤ w1.heap.size := by omega
    clear hz1'
    generalize w.heap.size + 2 = base at *
    generalize w1.heap.size = mb at *
    obtain ⟨hbw, R, hM, hrs1, hq1, hqb1, hout, f1, f2, f3, hmd1, hn1, hk1⟩ := hS
    obtain ⟨M_0, M_1, M_2, M_f0, M_f1, M_f2, M_l⟩ := blk3 hM
    cases q1 with
    | nil =>
      obtain rfl : m = 0 := HB.out.2.2
      have HE := Box.mk (grantP_out HB.out.1 (grantP_nil _ _) H_hres.out)
      have HQ := Box.mk HB.out.2.2
      go_wp2_with fail
      refine wp_gen fun w11 hc11 => ?_
      have hb11 : Below w.heap.size w w11 := bchain (by repeat' (first | with_reducible exact hbw | with_reducible refine Below.drew ?_ | with_reducible refine below_drewN ?_ _ | with_reducible refine Below.alloc ?_ (by have := hbw.size; first | (simp; done) | (simp; omega) | omega) _ | with_reducible refine Below.setCell ?_ (by first | (simp; done) | (simp; omega) | omega) _)) hc11
      have hst11 : Below wr.heap.size wr w11 := bchain (by repeat' (first | with_reducible exact Below.refl _ _ | with_reducible refine Below.drew ?_ | with_reducible refine below_drewN ?_ _ | with_reducible refine Below.alloc ?_ (by first | (simp; done) | (simp; omega) | omega) _ | with_reducible refine Below.setCell ?_ (by first | (simp; done) | (simp; omega) | omega) _)) hc11
      replace M_0 := cell_later hst11 M_0
      replace M_1 := cell_later hst11 M_1
      replace M_2 := cell_later hst11 M_2
      replace M_l := Nat.lt_of_lt_of_le M_l hst11.size
      replace R := R.later hst11
      replace hrs1 := hrs1.later hst11
      replace hq1 := hq1.later hst11
      replace hout := hout.later hst11
      replace hM := hM.later hst11
      clear hst11
      have KM_0 := cell_on M_0
      have KM_1 := cell_on M_1
      have KM_2 := cell_on M_2
      refine wp_region_on (by kernel_rfl) (by kernel_rfl) ?_
      repeat (go_big_quiet_step (fail))
      refine wpQuiet_nil ?_
      intro w12 hc12
      clear KM_0 KM_1 KM_2
      have hb12 : Below w.heap.size w w12 := bchain (by repeat' (first | with_reducible exact hb11 | with_reducible refine Below.drew ?_ | with_reducible refine below_drewN ?_ _ | with_reducible refine Below.alloc ?_ (by have := hb11.size; first | (simp; done) | (simp; omega) | omega) _ | with_reducible refine Below.setCell ?_ (by first | (simp; done) | (simp; omega) | omega) _)) hc12
      have hst12 : Below w11.heap.size w11 w12 := bchain (by repeat' (first | with_reducible exact Below.refl _ _ | with_reducible refine Below.drew ?_ | with_reducible refine below_drewN ?_ _ | with_reducible refine Below.alloc ?_ (by first | (simp; done) | (simp; omega) | omega) _ | with_reducible refine Below.setCell ?_ (by first | (simp; done) | (simp; omega) | omega) _)) hc12
      replace M_0 := cell_later hst12 M_0
      replace M_1 := cell_later hst12 M_1
      replace M_2 := cell_later hst12 M_2
      replace M_l := Nat.lt_of_lt_of_le M_l hst12.size
      replace R := R.later hst12
      replace hrs1 := hrs1.later hst12
      replace hq1 := hq1.later hst12
      replace hout := hout.later hst12
      replace hM := hM.later hst12
      clear hst12
      obtain ⟨R_0, R_1, R_2, R_f0, R_f1, R_f2, R_l⟩ := blk3 R
      obtain ⟨M_0, M_1, M_2, M_f0, M_f1, M_f2, M_l⟩ := blk3 hM
      have hl1 := hrs1.len
      have hl2 := hout.len
      rw [List.length_map] at hl1 hl2
      have ralo := hrs1.addr
      have oalo := hout.addr
      have p1 : Far ra1 (w.heap.size + 1) := fun ad e => by have := (ralo ad e).1; omega
      have p2 : Far qa1 (w.heap.size + 1) := fun ad e => by have := hqb1 ad e; omega
      have p3 : Far sa (w.heap.size + 1) := fun ad e => by have := (oalo ad e).1; omega
      go_wp2_with fail
      rw [HE.out]
      refine bodyPost_ret (v := .tuple #[.agg #[.int .i64 W1, .slice ra1 n c, .slice qa1 0 d], .slice sa k e1]) (by simp [results, Try.results37, go_sem, *]) rfl ⟨ra1, n, c, qa1, 0, d, sa, k, e1, rfl, ⟨⟨⟨by show n = rs1.length; omega, HQ.out, hrs1.cellsAt.far3 p1, hq1.far3 p2, by omega, by omega⟩, fun B hB ad e => by have := (ralo ad e).1; omega, fun B hB ad e => by have := hqb1 ad e; omega⟩, by show k = o1.length; omega, hout.cellsAt.far3 p3, fun B hB ad e => by have := (oalo ad e).1; omega⟩, (by repeat' (first | with_reducible exact hb12 | with_reducible refine Below.drew ?_ | with_reducible refine below_drewN ?_ _ | with_reducible refine Below.alloc ?_ (by have := hb12.size; first | (simp; done) | (simp; omega) | omega) _ | with_reducible refine Below.setCell ?_ (by first | (simp; done) | (simp; omega) | omega) _))⟩
    | cons x r =>
      obtain ⟨t, b0⟩ := x
      have hm1 : m = r.length + 1 := HB.out.2.2
      have hmI : (0 : Int) < (m : Int) := by omega
      have hm0 : 0 < m := by omega
      obtain ⟨b, o, rfl, c0, c1, _⟩ := hq1.wait1
      clear c0 c1
      have HQ := Box.mk HB.out.2.2
      obtain ⟨cb, hcb⟩ : ∃ cb, canB W1 rs1 b0 = cb := ⟨_, rfl⟩
      have hrl := hrs1.len
      rw [List.length_map, Nat.mul_one] at hrl
      have qC := fun Wd => may_B W1 ra1 rs1 n c hrl.symm (.slice (some ⟨b, o, none⟩) m d) t b0 cb hcb Wd
      have H_qC := Box.mk qC
      have H_hm1 := Box.mk hm1
      have H_hrl := Box.mk hrl
      clear qC hm1 hrl
      cases cb with
      | false =>
        have HE := Box.mk (grantP_out HB.out.1 (grantP_no hcb) H_hres.out)
        have H_hcb := Box.mk hcb
        clear hcb
        go_wp2_with fail
        refine wp_gen fun w11 hc11 => ?_
        have hb11 : Below w.heap.size w w11 := bchain (by repeat' (first | with_reducible exact hbw | with_reducible refine Below.drew ?_ | with_reducible refine below_drewN ?_ _ | with_reducible refine Below.alloc ?_ (by have := hbw.size; first | (simp; done) | (simp; omega) | omega) _ | with_reducible refine Below.setCell ?_ (by first | (simp; done) | (simp; omega) | omega) _)) hc11
        have hst11 : Below wr.heap.size wr w11 := bchain (by repeat' (first | with_reducible exact Below.refl _ _ | with_reducible refine Below.drew ?_ | with_reducible refine below_drewN ?_ _ | with_reducible refine Below.alloc ?_ (by first | (simp; done) | (simp; omega) | omega) _ | with_reducible refine Below.setCell ?_ (by first | (simp; done) | (simp; omega) | omega) _)) hc11
        replace M_0 := cell_later hst11 M_0
        replace M_1 := cell_later hst11 M_1
        replace M_2 := cell_later hst11 M_2
        replace M_l := Nat.lt_of_lt_of_le M_l hst11.size
        replace R := R.later hst11
        replace hrs1 := hrs1.later hst11
        replace hq1 := hq1.later hst11
        replace hout := hout.later hst11
        replace hM := hM.later hst11
        clear hst11
        have KM_0 := cell_on M_0
        have KM_1 := cell_on M_1
        have KM_2 := cell_on M_2
        obtain ⟨_, _, e0, c0, c1, _⟩ := hq1.wait1
        cases e0
        have d0 := cell_on c0
        have d1 := cell_on c1
        refine wp_region_on (by kernel_rfl) (by kernel_rfl) ?_
        repeat (go_big_quiet_step ((first | (go_at_call 27; with_reducible exact calls_on (H_qC.out _)))))
        refine wpQuiet_nil ?_
        intro w12 hc12
        clear KM_0 KM_1 KM_2
        have hb12 : Below w.heap.size w w12 := bchain (by repeat' (first | with_reducible exact hb11 | with_reducible refine Below.drew ?_ | with_reducible refine below_drewN ?_ _ | with_reducible refine Below.alloc ?_ (by have := hb11.size; first | (simp; done) | (simp; omega) | omega) _ | with_reducible refine Below.setCell ?_ (by first | (simp; done) | (simp; omega) | omega) _)) hc12
        have hst12 : Below w11.heap.size w11 w12 := bchain (by repeat' (first | with_reducible exact Below.refl _ _ | with_reducible refine Below.drew ?_ | with_reducible refine below_drewN ?_ _ | with_reducible refine Below.alloc ?_ (by first | (simp; done) | (simp; omega) | omega) _ | with_reducible refine Below.setCell ?_ (by first | (simp; done) | (simp; omega) | omega) _)) hc12
        replace M_0 := cell_later hst12 M_0
        replace M_1 := cell_later hst12 M_1
        replace M_2 := cell_later hst12 M_2
        replace M_l := Nat.lt_of_lt_of_le M_l hst12.size
        replace R := R.later hst12
        replace hrs1 := hrs1.later hst12
        replace hq1 := hq1.later hst12
        replace hout := hout.later hst12
        replace hM := hM.later hst12
        clear hst12
        clear d0 d1 c0 c1
        obtain ⟨_, _, e0, c0, c1, kq⟩ := hq1.wait1
        cases e0
        clear M_0 M_1 M_2 M_l M_f0 M_f1 M_f2
        obtain ⟨R_0, R_1, R_2, R_f0, R_f1, R_f2, R_l⟩ := blk3 R
        obtain ⟨M_0, M_1, M_2, M_f0, M_f1, M_f2, M_l⟩ := blk3 hM
        have hl1 := hrs1.len
        have hl2 := hout.len
        rw [List.length_map] at hl1 hl2
        have ralo := hrs1.addr
        have oalo := hout.addr
        have p1 : Far ra1 (w.heap.size + 1) := fun ad e => by have := (ralo ad e).1; omega
        have p2 : Far (some ⟨b, o, none⟩) (w.heap.size + 1) := fun ad e => by have := hqb1 ad e; omega
        have p3 : Far sa (w.heap.size + 1) := fun ad e => by have := (oalo ad e).1; omega
        go_wp2_with fail
        rw [HE.out]
        refine bodyPost_ret (v := .tuple #[.agg #[.int .i64 W1, .slice ra1 n c, .slice (some ⟨b, o, none⟩) m d], .slice sa k e1]) (by simp [results, Try.results37, go_sem, *]) rfl ⟨ra1, n, c, (some ⟨b, o, none⟩), m, d, sa, k, e1, rfl, ⟨⟨⟨by show n = rs1.length; omega, HQ.out, hrs1.cellsAt.far3 p1, hq1.far3 p2, by omega, by omega⟩, fun B hB ad e => by have := (ralo ad e).1; omega, fun B hB ad e => by have := hqb1 ad e; omega⟩, by show k = o1.length; omega, hout.cellsAt.far3 p3, fun B hB ad e => by have := (oalo ad e).1; omega⟩, (by repeat' (first | with_reducible exact hb12 | with_reducible refine Below.drew ?_ | with_reducible refine below_drewN ?_ _ | with_reducible refine Below.alloc ?_ (by have := hb12.size; first | (simp; done) | (simp; omega) | omega) _ | with_reducible refine Below.setCell ?_ (by first | (simp; done) | (simp; omega) | omega) _))⟩
      | true =>
        have H_hcb := Box.mk hcb
        clear hcb
        go_wp2_with fail
        refine wp_gen fun w11 hc11 => ?_
        have hb11 : Below w.heap.size w w11 := bchain (by repeat' (first | with_reducible exact hbw | with_reducible refine Below.drew ?_ | with_reducible refine below_drewN ?_ _ | with_reducible refine Below.alloc ?_ (by have := hbw.size; first | (simp; done) | (simp; omega) | omega) _ | with_reducible refine Below.setCell ?_ (by first | (simp; done) | (simp; omega) | omega) _)) hc11
        have hst11 : Below wr.heap.size wr w11 := bchain (by repeat' (first | with_reducible exact Below.refl _ _ | with_reducible refine Below.drew ?_ | with_reducible refine below_drewN ?_ _ | with_reducible refine Below.alloc ?_ (by first | (simp; done) | (simp; omega) | omega) _ | with_reducible refine Below.setCell ?_ (by first | (simp; done) | (simp; omega) | omega) _)) hc11
        replace M_0 := cell_later hst11 M_0
        replace M_1 := cell_later hst11 M_1
        replace M_2 := cell_later hst11 M_2
        replace M_l := Nat.lt_of_lt_of_le M_l hst11.size
        replace R := R.later hst11
        replace hrs1 := hrs1.later hst11
        replace hq1 := hq1.later hst11
        replace hout := hout.later hst11
        replace hM := hM.later hst11
        clear hst11
        have KM_0 := cell_on M_0
        have KM_1 := cell_on M_1
        have KM_2 := cell_on M_2
        obtain ⟨_, _, e0, c0, c1, _⟩ := hq1.wait1
        cases e0
        have d0 := cell_on c0
        have d1 := cell_on c1
        refine wp_region_on (by kernel_rfl) (by kernel_rfl) ?_
        repeat (go_big_quiet_step ((first | (go_at_call 27; with_reducible exact calls_on (H_qC.out _)))))
        refine wpQuiet_nil ?_
        intro w12 hc12
        clear KM_0 KM_1 KM_2
        have hb12 : Below w.heap.size w w12 := bchain (by repeat' (first | with_reducible exact hb11 | with_reducible refine Below.drew ?_ | with_reducible refine below_drewN ?_ _ | with_reducible refine Below.alloc ?_ (by have := hb11.size; first | (simp; done) | (simp; omega) | omega) _ | with_reducible refine Below.setCell ?_ (by first | (simp; done) | (simp; omega) | omega) _)) hc12
        have hst12 : Below w11.heap.size w11 w12 := bchain (by repeat' (first | with_reducible exact Below.refl _ _ | with_reducible refine Below.drew ?_ | with_reducible refine below_drewN ?_ _ | with_reducible refine Below.alloc ?_ (by first | (simp; done) | (simp; omega) | omega) _ | with_reducible refine Below.setCell ?_ (by first | (simp; done) | (simp; omega) | omega) _)) hc12
        replace M_0 := cell_later hst12 M_0
        replace M_1 := cell_later hst12 M_1
        replace M_2 := cell_later hst12 M_2
        replace M_l := Nat.lt_of_lt_of_le M_l hst12.size
        replace R := R.later hst12
        replace hrs1 := hrs1.later hst12
        replace hq1 := hq1.later hst12
        replace hout := hout.later hst12
        replace hM := hM.later hst12
        clear hst12
        clear d0 d1 c0 c1
        obtain ⟨_, _, e0, c0, c1, kq⟩ := hq1.wait1
        cases e0
        clear M_f0 M_f1 M_f2
        by_cases hd : d = 1
        · subst hd
          have hr0 : r = [] := List.eq_nil_of_length_eq_zero (by have := H_hm1.out; omega)
          have hm00 : 0 = m - 1 := by have := H_hm1.out; omega
          have kq' : CellsAt w12 (some ⟨b, o, none⟩) (celW r) := .inl (by rw [hr0]; rfl)
          have H_hr0 := Box.mk hr0
          have H_hm00 := Box.mk hm00
          clear hr0 hm00
          clear kq
          have hqb1' : ∀ ad, ((some ⟨b, o, none⟩) : Option Addr) = some ad → ad.block = qb := fun ad e => by cases e; exact hqb1 ⟨b, o, none⟩ rfl
          have q_ne : Far (some ⟨b, o, none⟩) mb := fun ad e => by have := hqb1' ad e; omega
          have oad := hout.addr
          clear M_0 M_1 M_2 M_l
          obtain ⟨M_0, M_1, M_2, M_f0, M_f1, M_f2, M_l⟩ := blk3 hM
          go_upto_region 6 with (fail)
          refine wp_facts (fun Wx => RMid w Wx base mb w12.heap.size W1 rs1 r o1 ra1 n c (some ⟨b, o, none⟩) 0 0 sa k e1 t b0) ⟨(by repeat' (first | with_reducible exact hb12 | with_reducible refine Below.drew ?_ | with_reducible refine below_drewN ?_ _ | with_reducible refine Below.alloc ?_ (by have := hb12.size; first | (simp; done) | (simp; omega) | omega) _ | with_reducible refine Below.setCell ?_ (by first | (simp; done) | (simp; omega) | omega) _)), ((R.setFar (p := ⟨mb, 2, none⟩) (by simp; omega) _).alloc _), ((hM.set 2 _).alloc _), Blk.new _ _ _ _ (by simp), ((hrs1.setFar (a := ⟨mb, 2, none⟩) (far_own f1) _).alloc _), ((kq'.setFarG (p := ⟨mb, 2, none⟩) q_ne _).alloc _), ((hout.setCell (a := ⟨mb, 2, none⟩) (by simp) _).alloc _)⟩ ?_
          intro w13 hMid
          have tlt1 : w.heap.size + 1 < w12.heap.size := R.lt
          have tltm : mb < w12.heap.size := hM.lt
          generalize w12.heap.size = tb at *
          obtain ⟨hb13, R13, M13, T13, hrs13, hq13, hout13⟩ := hMid
          clear hM R hrs1 hq1 hout M_0 M_1 M_2 M_f0 M_f1 M_f2 M_l c0 c1
          obtain ⟨M_0, M_1, M_2, M_f0, M_f1, M_f2, M_l⟩ := blk3 M13
          obtain ⟨T_0, T_1, T_l⟩ := blk2 T13
          go_wp2_with (at_builtin; refine stop ?_)
          refine Stop.go ?_
          refine wpList_append_x _ rfl _ _ 22 rfl (mb + 1) 3 i0 (.int .i64 0) 1 8 Try.underlying22 hi hz0 hz1 hz2 rfl (by decide) (.slice sa k e1) k _ rfl (hout13.alloc _) (some ⟨w13.heap.size, 0, none⟩) 1 1 [.int .i64 t] rfl rfl (cellsAt_one w13 _ _) (oneCell_int _ _) (by unfold maxLen; omega) (by omega) (by simp; omega) ?_
          intro a5 c5 w14 o5 hg hk5
          have M14 := blk_grown (M13.alloc _) hg (own_not fun bd e => by have := (oad bd e).1; omega)
          have R14 := blk_grown (R13.alloc _) hg (own_not fun bd e => by have := (oad bd e).1; omega)
          have T14 := blk_grown (T13.alloc _) hg (own_not fun bd e => by have := (oad bd e).2; omega)
          have hrs14 := (hrs13.alloc _).kept hg (by
            cases ra1 with
            | none => exact .inl rfl
            | some ad => exact .inr (own_not fun bd e => (f3 bd e ad rfl).symm))
          have hq14 := cellsAt_grown (hq13.alloc _) hg (fun ad e => own_not fun bd e2 => by have := hqb1' ad e; have := (oad bd e2).1; omega)
          have hb14 : Below w.heap.size w w14 := below_grownX (hb13.alloc (by omega) _) hg (by simp; omega) (fun q h => by have := (hout13.lt q h).1; omega)
          have f35 : ∀ bd, a5 = some bd → Far ra1 bd.block := fun bd e2 ad e1 => by
            have h1 := (hrs13.addr ad e1).2
            subst e2
            rcases hk5 bd.block rfl with h | h
            · cases sa with
              | none => cases h
              | some cd =>
                have h2 : cd.block = bd.block := by simpa [Value.ownBlock] using h
                have h3 := f3 cd rfl ad e1
                rw [h2] at h3
                exact h3
            · simp at h; omega
          have o5' : OwnX w14 (mb + 1) 3 1 (.slice a5 (k + 1) c5) (k + 1) ((o1 ++ [t]).map (Value.int .i64)) := by simpa using o5
          clear hg hk5 o5 M13 R13 T13 hrs13 hq13 hout13 M_0 M_1 M_2 M_f0 M_f1 M_f2 M_l T_0 T_1 T_l oad f3
          obtain ⟨M_0, M_1, M_2, M_f0, M_f1, M_f2, M_l⟩ := blk3 M14
          obtain ⟨T_0, T_1, T_l⟩ := blk2 T14
          have HB' := HB.out
          clear HB
          cases b0 with
          | true =>
            have HN : Box (grantP W rs q = appR (o1 ++ [t]) (grantP t rs1 r) ∧ Wq rs1 r ∧ 0 = r.length) := Box.mk ⟨by rw [HB'.1, grantP_w H_hcb.out HB'.2.1.ne, appR_app], HB'.2.1.tail, by have := H_hm1.out; have := H_hm00.out; omega⟩
            clear HB'
            go_wp2_with fail
            go_roundw
            case rel =>
              exact ⟨t, rs1, r, o1 ++ [t], ra1, n, c, (some ⟨b, o, none⟩), 0, 0, a5, k + 1, c5, rfl, ⟨hb14.setCell (show w.heap.size ≤ mb by omega) _, R14.setFar (p := ⟨mb, 0, none⟩) (by simp; omega) _, M14.set 0 _, hrs14.setFar (a := ⟨mb, 0, none⟩) (far_own f1) _, hq14.setFarG (p := ⟨mb, 0, none⟩) q_ne _, hqb1', o5'.setCell (a := ⟨mb, 0, none⟩) (by simp) _, f1, f2, f35, by have := H_hm1.out; omega, by have := H_hm1.out; omega, by have := H_hm1.out; omega⟩, HN⟩
            case measure => simp [lenS]; omega
          | false =>
            have HN : Box (grantP W rs q = appR (o1 ++ [t]) (grantP W1 (insL rs1 t) r) ∧ Wq (insL rs1 t) r ∧ 0 = r.length) := Box.mk ⟨by rw [HB'.1, grantP_r H_hcb.out, appR_app], HB'.2.1.ins, by have := H_hm1.out; have := H_hm00.out; omega⟩
            have hinc := HB'.2.1.inc
            have hnt : t ∉ rs1 := (HB'.2.1.far (t, false) (by simp)).2
            clear HB'
            have hn14 : n = rs1.length := by have := hrs14.len; simpa using this.symm
            have hLn : lbI rs1 t ≤ n := by rw [hn14]; exact lbI_le rs1 t
            have hiff := fun k hk => lbI_iff rs1 t hinc k hk
            have hins : insL rs1 t = rs1.take (lbI rs1 t) ++ [t] ++ rs1.drop (lbI rs1 t) := rfl
            obtain ⟨L, hL⟩ : ∃ L, lbI rs1 t = L := ⟨_, rfl⟩
            rw [hL] at hLn hiff hins
            have ralo := hrs14.addr
            have H_hn14 := Box.mk hn14
            have H_hinc := Box.mk hinc
            have H_hL := Box.mk hL
            have H_hiff := Box.mk hiff
            have H_hins := Box.mk hins
            have H_hnt := Box.mk hnt
            clear hn14 hinc hL hiff hins hnt
            go_wp2_with (at_builtin; refine stop ?_)
            refine Stop.go ?_
            refine wpList_append_x _ rfl _ _ 22 rfl base 3 i0 (.int .i64 0) 1 8 Try.underlying22 hi hz0 hz1 hz2 rfl (by decide) (.slice ra1 n c) n _ rfl (hrs14.alloc _) (some ⟨w14.heap.size, 0, none⟩) 1 1 [.int .i64 t] rfl rfl (cellsAt_one w14 _ _) (oneCell_int _ _) (by unfold maxLen; omega) (by omega) (by simp; omega) ?_
            intro a9 c9 w15 o9 hg hk9
            have M15 := blk_grown (M14.alloc _) hg (own_not f1)
            have R15 := blk_grown (R14.alloc _) hg (own_not fun ad e => by have := (ralo ad e).1; omega)
            have q15 := cellsAt_grown (hq14.alloc _) hg (fun ad e => own_not fun rd e2 => by rw [hqb1' ad e]; exact f2 rd e2)
            have o15 := (o5'.alloc _).kept hg (by
              cases a5 with
              | none => exact .inl rfl
              | some bd => exact .inr (own_not fun rd e => f35 bd rfl rd e))
            have hb15 : Below w.heap.size w w15 := below_grownX (hb14.alloc (by omega) _) hg (by simp; omega) (fun q h => by have := (hrs14.lt q h).1; omega)
            have hnew : ∀ B, Far ra1 B → B ≤ w14.heap.size → Far a9 B := fun B h1 h2 ad e => by
              subst e
              rcases hk9 ad.block rfl with h | h
              · cases ra1 with
                | none => cases h
                | some rd =>
                  have h3 : rd.block = ad.block := by simpa [Value.ownBlock] using h
                  have := h1 rd rfl
                  rw [h3] at this
                  exact this
              · simp at h; omega
            have f19 := hnew mb f1 (by omega)
            have f29 := hnew qb f2 (by omega)
            have f39 : ∀ bd, a5 = some bd → Far a9 bd.block := fun bd e => hnew _ (f35 bd e) (by have := (o5'.addr bd e).2; omega)
            have o9' : OwnX w15 base 3 1 (.slice a9 (n + 1) c9) (n + 1) ((rs1 ++ [t]).map (Value.int .i64)) := by simpa using o9
            clear hg hk9 o9 hnew M14 R14 T14 hrs14 hq14 o5' M_0 M_1 M_2 M_f0 M_f1 M_f2 M_l T_0 T_1 T_l f35 ralo
            obtain ⟨M_0, M_1, M_2, M_f0, M_f1, M_f2, M_l⟩ := blk3 M15
            go_wp2_with fail
            refine wp_facts (fun Wx => Below w.heap.size w Wx ∧ Blk Wx (w.heap.size + 1) 25 [.int .i64 0, .slice none 0 0, .slice none 0 0] ∧ Blk Wx mb 25 [.int .i64 W1, .slice a9 (n + 1) c9, .slice (some ⟨b, o, none⟩) 0 0] ∧ OwnX Wx base 3 1 (.slice a9 (n + 1) c9) (n + 1) ((rs1 ++ [t]).map (Value.int .i64)) ∧ CellsAt Wx (some ⟨b, o, none⟩) (celW r) ∧ OwnX Wx (mb + 1) 3 1 (.slice a5 (k + 1) c5) (k + 1) ((o1 ++ [t]).map (Value.int .i64))) ⟨hb15.setCell (show w.heap.size ≤ mb by omega) _, R15.setFar (p := ⟨mb, 1, none⟩) (by simp; omega) _, M15.set 1 _, o9'.setFar (a := ⟨mb, 1, none⟩) (far_own f19) _, q15.setFarG (p := ⟨mb, 1, none⟩) q_ne _, o15.setCell (a := ⟨mb, 1, none⟩) (by simp) _⟩ ?_
            rintro w16 ⟨hb16, R16, M16, o16, q16, u16⟩
            clear hb15 R15 M15 o9' q15 o15 M_0 M_1 M_2 M_f0 M_f1 M_f2 M_l
            have hnI : (n : Int) ≤ 1000000 := by omega
            go_loopw [7] (fun i wv => ∃ p : Nat, L ≤ p ∧ p ≤ n ∧ i = .int .i64 p ∧ Below w.heap.size w wv ∧ OwnX wv base 3 1 (.slice a9 (n + 1) c9) (n + 1) ((rs1.take p ++ [t] ++ rs1.drop p).map (Value.int .i64)) ∧ KeptX a9 w16 wv) (fun i _ => (intOf i).toNat)
            case atStart =>
              refine ⟨n, hLn, Nat.le_refl _, by first | rfl | go_num, hb16, ?_, .below (Below.refl _ _)⟩
              rw [List.take_of_length_le (by rw [← H_hn14.out]; exact Nat.le_refl _), List.drop_of_length_le (by rw [← H_hn14.out]; exact Nat.le_refl _), List.append_nil]
              exact o16
            case round =>
              obtain ⟨p, hp1, hp2, rfl, hbv, ow, hkx⟩ := hrel
              have Mv := M16.keptX hkx f19
              obtain ⟨M_0, M_1, M_2, M_f0, M_f1, M_f2, M_l⟩ := blk3 Mv
              by_cases hLp : L < p
              · obtain ⟨p, rfl⟩ : ∃ p', p = p' + 1 := ⟨p - 1, by omega⟩
                have hpl : p < rs1.length := by have := H_hn14.out; omega
                obtain ⟨y, hy⟩ : ∃ y, rs1[p]? = some y := ⟨_, List.getElem?_eq_getElem hpl⟩
                have hty : t < y := by
                  have h1 := H_hiff.out p hpl
                  rw [hy] at h1
                  have h2 : ¬ y < t := fun h => by have := h1.1 h; omega
                  have h3 : y ≠ t := fun e => H_hnt.out (by rw [← e]; exact List.mem_of_getElem? hy)
                  omega
                have htl : (rs1.take (p + 1)).length = p + 1 := by rw [List.length_take]; omega
                have x1 : ((rs1.take (p + 1) ++ [t] ++ rs1.drop (p + 1)).map (Value.int .i64))[p + 1]? = some (.int .i64 t) := by
                  rw [List.getElem?_map, List.append_assoc, List.getElem?_append_right (by omega), htl, Nat.sub_self]; rfl
                have x0 : ((rs1.take (p + 1) ++ [t] ++ rs1.drop (p + 1)).map (Value.int .i64))[p]? = some (.int .i64 y) := by
                  rw [List.getElem?_map, List.append_assoc, List.getElem?_append_left (by omega), List.getElem?_take, if_pos (by omega), hy]; rfl
                obtain ⟨g, rfl, hg1, hg2, hcl, hfr⟩ := ow.at (by omega)
                have c1 := hcl _ _ x1
                have c0 := hcl _ _ x0
                have fz1 := hfr (p + 1)
                have fz0 := hfr p
                have hnext : (((rs1.take (p + 1) ++ [t] ++ rs1.drop (p + 1)).map (Value.int .i64)).set (p + 1) (.int .i64 y)).set p (.int .i64 t) = (rs1.take p ++ [t] ++ rs1.drop p).map (Value.int .i64) := by
                  rw [← List.map_set, ← List.map_set]
                  congr 1
                  have e1 : rs1.take (p + 1) = rs1.take p ++ [y] := by rw [List.take_add_one, hy]; rfl
                  have e2 : rs1.drop p = y :: rs1.drop (p + 1) := by
                    rw [List.drop_eq_getElem_cons hpl]
                    rw [List.getElem?_eq_getElem hpl] at hy
                    injection hy with hy
                    rw [hy]
                  have l1 : (rs1.take p).length = p := by rw [List.length_take]; omega
                  rw [e1, e2, List.append_assoc, List.append_assoc, List.append_assoc, List.set_append_right _ _ (by omega), l1, List.set_append_right _ _ (by omega), l1]
                  simp
                have e1 : ((p + 1 : Nat) : Int) - 1 = (p : Int) := by omega
                have i1 : (p : Int) < (n : Int) + 1 := by omega
                have i2 : (p : Int) + 1 < (n : Int) + 1 := by omega
                have i3 : (0 : Int) < ((p + 1 : Nat) : Int) := by omega
                have i4 : (0 : Int) < (p : Int) + 1 := by omega
                have i5 : p < n + 1 := by omega
                have i6 : p < n := by omega
                have hgm : ¬ (g = mb) := f19 _ rfl
                have hgm2 : ¬ (mb = g) := fun e => hgm e.symm
                clear hcl hfr
                have H_hy := Box.mk hy
                have H_htl := Box.mk htl
                have H_x1 := Box.mk x1
                have H_x0 := Box.mk x0
                have H_hnext := Box.mk hnext
                clear hy htl x1 x0 hnext
                go_wp2_with fail
                go_quiet (fail)
                go_wp2_with fail
                go_region
                go_wp2_with fail
                go_roundw
                case rel =>
                  exact ⟨p, by omega, by omega, by first | rfl | go_num, ((below_drewN hbv _).setCell (show w.heap.size ≤ g by omega) _).setCell (show w.heap.size ≤ g by omega) _, by rw [← H_hnext.out]; exact ((ow.drewN _).setAt (by omega) _).setAt (by omega) _, ((hkx.trans (.below (below_drewN (Below.refl _ _) _))).trans (.set _ _ _)).trans (.set _ _ _)⟩
                case measure => first | (simp [intOf]; done) | (simp [intOf]; omega)
              · obtain rfl : p = L := by omega
                have a9lo := ow.addr
                have g1 : Far a9 (w.heap.size + 1) := fun ad e => by have := (a9lo ad e).1; omega
                have Rv := R16.keptX hkx g1
                have qv := q16.keptX hkx (fun ad bd e1 e2 => by rw [hqb1' ad e1]; exact f29 bd e2)
                have uv := u16.keptX hkx (fun ad bd e1 e2 => f39 ad e1 bd e2)
                clear a9lo
                cases p with
                | zero =>
                  have i3 : ¬ (0 : Int) < ((0 : Nat) : Int) := by omega
                  go_wp2_with fail
                  go_quiet (fail)
                  go_wp2_with fail
                  go_roundw
                  case rel =>
                    exact ⟨W1, insL rs1 t, r, o1 ++ [t], _, n + 1, c9, (some ⟨b, o, none⟩), 0, 0, a5, k + 1, c5, rfl, ⟨below_drewN hbv _, Rv.drewN _, Mv.drewN _, by rw [H_hins.out]; exact ow.drewN _, qv.drewN _, hqb1', uv.drewN _, f19, f29, f39, by have := H_hm1.out; omega, by have := H_hm1.out; omega, by have := H_hm1.out; omega⟩, HN⟩
                  case measure => simp [lenS]; omega
                | succ p =>
                  have hpl : p < rs1.length := by have := H_hn14.out; omega
                  obtain ⟨y, hy⟩ : ∃ y, rs1[p]? = some y := ⟨_, List.getElem?_eq_getElem hpl⟩
                  have hty : ¬ t < y := by
                    have h1 := (H_hiff.out p hpl).2 (by omega)
                    rw [hy] at h1
                    have h2 : y < t := h1
                    omega
                  have hyt : y ≤ t := by omega
                  have htl : (rs1.take (p + 1)).length = p + 1 := by rw [List.length_take]; omega
                  have x1 : ((rs1.take (p + 1) ++ [t] ++ rs1.drop (p + 1)).map (Value.int .i64))[p + 1]? = some (.int .i64 t) := by
                    rw [List.getElem?_map, List.append_assoc, List.getElem?_append_right (by omega), htl, Nat.sub_self]; rfl
                  have x0 : ((rs1.take (p + 1) ++ [t] ++ rs1.drop (p + 1)).map (Value.int .i64))[p]? = some (.int .i64 y) := by
                    rw [List.getElem?_map, List.append_assoc, List.getElem?_append_left (by omega), List.getElem?_take, if_pos (by omega), hy]; rfl
                  obtain ⟨g, rfl, hg1, hg2, hcl, hfr⟩ := ow.at (by omega)
                  have c1 := hcl _ _ x1
                  have c0 := hcl _ _ x0
                  have e1 : ((p + 1 : Nat) : Int) - 1 = (p : Int) := by omega
                  have i1 : (p : Int) < (n : Int) + 1 := by omega
                  have i2 : (p : Int) + 1 < (n : Int) + 1 := by omega
                  have i3 : (0 : Int) < ((p + 1 : Nat) : Int) := by omega
                  have i4 : (0 : Int) < (p : Int) + 1 := by omega
                  have i5 : p < n + 1 := by omega
                  have i6 : p < n := by omega
                  clear hcl hfr
                  have H_hy := Box.mk hy
                  have H_htl := Box.mk htl
                  have H_x1 := Box.mk x1
                  have H_x0 := Box.mk x0
                  clear hy htl x1 x0
                  go_wp2_with fail
                  go_quiet (fail)
                  go_wp2_with fail
                  go_roundw
                  case rel =>
                    exact ⟨W1, insL rs1 t, r, o1 ++ [t], _, n + 1, c9, (some ⟨b, o, none⟩), 0, 0, a5, k + 1, c5, rfl, ⟨below_drewN hbv _, Rv.drewN _, Mv.drewN _, by rw [H_hins.out]; exact ow.drewN _, qv.drewN _, hqb1', uv.drewN _, f19, f29, f39, by have := H_hm1.out; omega, by have := H_hm1.out; omega, by have := H_hm1.out; omega⟩, HN⟩
                  case measure => simp [lenS]; omega
        · have kq' := kq
          have H_hm00 : Box (m - 1 = m - 1) := Box.mk rfl
          clear kq
          have hqb1' : ∀ ad, ((some ⟨b, o + 2, none⟩) : Option Addr) = some ad → ad.block = qb := fun ad e => by cases e; exact hqb1 ⟨b, o, none⟩ rfl
          have q_ne : Far (some ⟨b, o + 2, none⟩) mb := fun ad e => by have := hqb1' ad e; omega
          have oad := hout.addr
          clear M_0 M_1 M_2 M_l
          obtain ⟨M_0, M_1, M_2, M_f0, M_f1, M_f2, M_l⟩ := blk3 hM
          go_upto_region 6 with (fail)
          refine wp_facts (fun Wx => RMid w Wx base mb w12.heap.size W1 rs1 r o1 ra1 n c (some ⟨b, o + 2, none⟩) (m - 1) (d - 1) sa k e1 t b0) ⟨(by repeat' (first | with_reducible exact hb12 | with_reducible refine Below.drew ?_ | with_reducible refine below_drewN ?_ _ | with_reducible refine Below.alloc ?_ (by have := hb12.size; first | (simp; done) | (simp; omega) | omega) _ | with_reducible refine Below.setCell ?_ (by first | (simp; done) | (simp; omega) | omega) _)), ((R.setFar (p := ⟨mb, 2, none⟩) (by simp; omega) _).alloc _), ((hM.set 2 _).alloc _), Blk.new _ _ _ _ (by simp), ((hrs1.setFar (a := ⟨mb, 2, none⟩) (far_own f1) _).alloc _), ((kq'.setFarG (p := ⟨mb, 2, none⟩) q_ne _).alloc _), ((hout.setCell (a := ⟨mb, 2, none⟩) (by simp) _).alloc _)⟩ ?_
          intro w13 hMid
          have tlt1 : w.heap.size + 1 < w12.heap.size := R.lt
          have tltm : mb < w12.heap.size := hM.lt
          generalize w12.heap.size = tb at *
          obtain ⟨hb13, R13, M13, T13, hrs13, hq13, hout13⟩ := hMid
          clear hM R hrs1 hq1 hout M_0 M_1 M_2 M_f0 M_f1 M_f2 M_l c0 c1
          obtain ⟨M_0, M_1, M_2, M_f0, M_f1, M_f2, M_l⟩ := blk3 M13
          obtain ⟨T_0, T_1, T_l⟩ := blk2 T13
          go_wp2_with (at_builtin; refine stop ?_)
          refine Stop.go ?_
          refine wpList_append_x _ rfl _ _ 22 rfl (mb + 1) 3 i0 (.int .i64 0) 1 8 Try.underlying22 hi hz0 hz1 hz2 rfl (by decide) (.slice sa k e1) k _ rfl (hout13.alloc _) (some ⟨w13.heap.size, 0, none⟩) 1 1 [.int .i64 t] rfl rfl (cellsAt_one w13 _ _) (oneCell_int _ _) (by unfold maxLen; omega) (by omega) (by simp; omega) ?_
          intro a5 c5 w14 o5 hg hk5
          have M14 := blk_grown (M13.alloc _) hg (own_not fun bd e => by have := (oad bd e).1; omega)
          have R14 := blk_grown (R13.alloc _) hg (own_not fun bd e => by have := (oad bd e).1; omega)
          have T14 := blk_grown (T13.alloc _) hg (own_not fun bd e => by have := (oad bd e).2; omega)
          have hrs14 := (hrs13.alloc _).kept hg (by
            cases ra1 with
            | none => exact .inl rfl
            | some ad => exact .inr (own_not fun bd e => (f3 bd e ad rfl).symm))
          have hq14 := cellsAt_grown (hq13.alloc _) hg (fun ad e => own_not fun bd e2 => by have := hqb1' ad e; have := (oad bd e2).1; omega)
          have hb14 : Below w.heap.size w w14 := below_grownX (hb13.alloc (by omega) _) hg (by simp; omega) (fun q h => by have := (hout13.lt q h).1; omega)
          have f35 : ∀ bd, a5 = some bd → Far ra1 bd.block := fun bd e2 ad e1 => by
            have h1 := (hrs13.addr ad e1).2
            subst e2
            rcases hk5 bd.block rfl with h | h
            · cases sa with
              | none => cases h
              | some cd =>
                have h2 : cd.block = bd.block := by simpa [Value.ownBlock] using h
                have h3 := f3 cd rfl ad e1
                rw [h2] at h3
                exact h3
            · simp at h; omega
          have o5' : OwnX w14 (mb + 1) 3 1 (.slice a5 (k + 1) c5) (k + 1) ((o1 ++ [t]).map (Value.int .i64)) := by simpa using o5
          clear hg hk5 o5 M13 R13 T13 hrs13 hq13 hout13 M_0 M_1 M_2 M_f0 M_f1 M_f2 M_l T_0 T_1 T_l oad f3
          obtain ⟨M_0, M_1, M_2, M_f0, M_f1, M_f2, M_l⟩ := blk3 M14
          obtain ⟨T_0, T_1, T_l⟩ := blk2 T14
          have HB' := HB.out
          clear HB
          cases b0 with
          | true =>
            have HN : Box (grantP W rs q = appR (o1 ++ [t]) (grantP t rs1 r) ∧ Wq rs1 r ∧ (m - 1) = r.length) := Box.mk ⟨by rw [HB'.1, grantP_w H_hcb.out HB'.2.1.ne, appR_app], HB'.2.1.tail, by have := H_hm1.out; have := H_hm00.out; omega⟩
            clear HB'
            go_wp2_with fail
            go_roundw
            case rel =>
              exact ⟨t, rs1, r, o1 ++ [t], ra1, n, c, (some ⟨b, o + 2, none⟩), (m - 1), (d - 1), a5, k + 1, c5, rfl, ⟨hb14.setCell (show w.heap.size ≤ mb by omega) _, R14.setFar (p := ⟨mb, 0, none⟩) (by simp; omega) _, M14.set 0 _, hrs14.setFar (a := ⟨mb, 0, none⟩) (far_own f1) _, hq14.setFarG (p := ⟨mb, 0, none⟩) q_ne _, hqb1', o5'.setCell (a := ⟨mb, 0, none⟩) (by simp) _, f1, f2, f35, by have := H_hm1.out; omega, by have := H_hm1.out; omega, by have := H_hm1.out; omega⟩, HN⟩
            case measure => simp [lenS]; omega
          | false =>
            have HN : Box (grantP W rs q = appR (o1 ++ [t]) (grantP W1 (insL rs1 t) r) ∧ Wq (insL rs1 t) r ∧ (m - 1) = r.length) := Box.mk ⟨by rw [HB'.1, grantP_r H_hcb.out, appR_app], HB'.2.1.ins, by have := H_hm1.out; have := H_hm00.out; omega⟩
            have hinc := HB'.2.1.inc
            have hnt : t ∉ rs1 := (HB'.2.1.far (t, false) (by simp)).2
            clear HB'
            have hn14 : n = rs1.length := by have := hrs14.len; simpa using this.symm
            have hLn : lbI rs1 t ≤ n := by rw [hn14]; exact lbI_le rs1 t
            have hiff := fun k hk => lbI_iff rs1 t hinc k hk
            have hins : insL rs1 t = rs1.take (lbI rs1 t) ++ [t] ++ rs1.drop (lbI rs1 t) := rfl
            obtain ⟨L, hL⟩ : ∃ L, lbI rs1 t = L := ⟨_, rfl⟩
            rw [hL] at hLn hiff hins
            have ralo := hrs14.addr
            have H_hn14 := Box.mk hn14
            have H_hinc := Box.mk hinc
            have H_hL := Box.mk hL
            have H_hiff := Box.mk hiff
            have H_hins := Box.mk hins
            have H_hnt := Box.mk hnt
            clear hn14 hinc hL hiff hins hnt
            go_wp2_with (at_builtin; refine stop ?_)
            refine Stop.go ?_
            refine wpList_append_x _ rfl _ _ 22 rfl base 3 i0 (.int .i64 0) 1 8 Try.underlying22 hi hz0 hz1 hz2 rfl (by decide) (.slice ra1 n c) n _ rfl (hrs14.alloc _) (some ⟨w14.heap.size, 0, none⟩) 1 1 [.int .i64 t] rfl rfl (cellsAt_one w14 _ _) (oneCell_int _ _) (by unfold maxLen; omega) (by omega) (by simp; omega) ?_
            intro a9 c9 w15 o9 hg hk9
            have M15 := blk_grown (M14.alloc _) hg (own_not f1)
            have R15 := blk_grown (R14.alloc _) hg (own_not fun ad e => by have := (ralo ad e).1; omega)
            have q15 := cellsAt_grown (hq14.alloc _) hg (fun ad e => own_not fun rd e2 => by rw [hqb1' ad e]; exact f2 rd e2)
            have o15 := (o5'.alloc _).kept hg (by
              cases a5 with
              | none => exact .inl rfl
              | some bd => exact .inr (own_not fun rd e => f35 bd rfl rd e))
            have hb15 : Below w.heap.size w w15 := below_grownX (hb14.alloc (by omega) _) hg (by simp; omega) (fun q h => by have := (hrs14.lt q h).1; omega)
            have hnew : ∀ B, Far ra1 B → B ≤ w14.heap.size → Far a9 B := fun B h1 h2 ad e => by
              subst e
              rcases hk9 ad.block rfl with h | h
              · cases ra1 with
                | none => cases h
                | some rd =>
                  have h3 : rd.block = ad.block := by simpa [Value.ownBlock] using h
                  have := h1 rd rfl
                  rw [h3] at this
                  exact this
              · simp at h; omega
            have f19 := hnew mb f1 (by omega)
            have f29 := hnew qb f2 (by omega)
            have f39 : ∀ bd, a5 = some bd → Far a9 bd.block := fun bd e => hnew _ (f35 bd e) (by have := (o5'.addr bd e).2; omega)
            have o9' : OwnX w15 base 3 1 (.slice a9 (n + 1) c9) (n + 1) ((rs1 ++ [t]).map (Value.int .i64)) := by simpa using o9
            clear hg hk9 o9 hnew M14 R14 T14 hrs14 hq14 o5' M_0 M_1 M_2 M_f0 M_f1 M_f2 M_l T_0 T_1 T_l f35 ralo
            obtain ⟨M_0, M_1, M_2, M_f0, M_f1, M_f2, M_l⟩ := blk3 M15
            go_wp2_with fail
            refine wp_facts (fun Wx => Below w.heap.size w Wx ∧ Blk Wx (w.heap.size + 1) 25 [.int .i64 0, .slice none 0 0, .slice none 0 0] ∧ Blk Wx mb 25 [.int .i64 W1, .slice a9 (n + 1) c9, .slice (some ⟨b, o + 2, none⟩) (m - 1) (d - 1)] ∧ OwnX Wx base 3 1 (.slice a9 (n + 1) c9) (n + 1) ((rs1 ++ [t]).map (Value.int .i64)) ∧ CellsAt Wx (some ⟨b, o + 2, none⟩) (celW r) ∧ OwnX Wx (mb + 1) 3 1 (.slice a5 (k + 1) c5) (k + 1) ((o1 ++ [t]).map (Value.int .i64))) ⟨hb15.setCell (show w.heap.size ≤ mb by omega) _, R15.setFar (p := ⟨mb, 1, none⟩) (by simp; omega) _, M15.set 1 _, o9'.setFar (a := ⟨mb, 1, none⟩) (far_own f19) _, q15.setFarG (p := ⟨mb, 1, none⟩) q_ne _, o15.setCell (a := ⟨mb, 1, none⟩) (by simp) _⟩ ?_
            rintro w16 ⟨hb16, R16, M16, o16, q16, u16⟩
            clear hb15 R15 M15 o9' q15 o15 M_0 M_1 M_2 M_f0 M_f1 M_f2 M_l
            have hnI : (n : Int) ≤ 1000000 := by omega
            go_loopw [7] (fun i wv => ∃ p : Nat, L ≤ p ∧ p ≤ n ∧ i = .int .i64 p ∧ Below w.heap.size w wv ∧ OwnX wv base 3 1 (.slice a9 (n + 1) c9) (n + 1) ((rs1.take p ++ [t] ++ rs1.drop p).map (Value.int .i64)) ∧ KeptX a9 w16 wv) (fun i _ => (intOf i).toNat)
            case atStart =>
              refine ⟨n, hLn, Nat.le_refl _, by first | rfl | go_num, hb16, ?_, .below (Below.refl _ _)⟩
              rw [List.take_of_length_le (by rw [← H_hn14.out]; exact Nat.le_refl _), List.drop_of_length_le (by rw [← H_hn14.out]; exact Nat.le_refl _), List.append_nil]
              exact o16
            case round =>
              obtain ⟨p, hp1, hp2, rfl, hbv, ow, hkx⟩ := hrel
              have Mv := M16.keptX hkx f19
              obtain ⟨M_0, M_1, M_2, M_f0, M_f1, M_f2, M_l⟩ := blk3 Mv
              by_cases hLp : L < p
              · obtain ⟨p, rfl⟩ : ∃ p', p = p' + 1 := ⟨p - 1, by omega⟩
                have hpl : p < rs1.length := by have := H_hn14.out; omega
                obtain ⟨y, hy⟩ : ∃ y, rs1[p]? = some y := ⟨_, List.getElem?_eq_getElem hpl⟩
                have hty : t < y := by
                  have h1 := H_hiff.out p hpl
                  rw [hy] at h1
                  have h2 : ¬ y < t := fun h => by have := h1.1 h; omega
                  have h3 : y ≠ t := fun e => H_hnt.out (by rw [← e]; exact List.mem_of_getElem? hy)
                  omega
                have htl : (rs1.take (p + 1)).length = p + 1 := by rw [List.length_take]; omega
                have x1 : ((rs1.take (p + 1) ++ [t] ++ rs1.drop (p + 1)).map (Value.int .i64))[p + 1]? = some (.int .i64 t) := by
                  rw [List.getElem?_map, List.append_assoc, List.getElem?_append_right (by omega), htl, Nat.sub_self]; rfl
                have x0 : ((rs1.take (p + 1) ++ [t] ++ rs1.drop (p + 1)).map (Value.int .i64))[p]? = some (.int .i64 y) := by
                  rw [List.getElem?_map, List.append_assoc, List.getElem?_append_left (by omega), List.getElem?_take, if_pos (by omega), hy]; rfl
                obtain ⟨g, rfl, hg1, hg2, hcl, hfr⟩ := ow.at (by omega)
                have c1 := hcl _ _ x1
                have c0 := hcl _ _ x0
                have fz1 := hfr (p + 1)
                have fz0 := hfr p
                have hnext : (((rs1.take (p + 1) ++ [t] ++ rs1.drop (p + 1)).map (Value.int .i64)).set (p + 1) (.int .i64 y)).set p (.int .i64 t) = (rs1.take p ++ [t] ++ rs1.drop p).map (Value.int .i64) := by
                  rw [← List.map_set, ← List.map_set]
                  congr 1
                  have e1 : rs1.take (p + 1) = rs1.take p ++ [y] := by rw [List.take_add_one, hy]; rfl
                  have e2 : rs1.drop p = y :: rs1.drop (p + 1) := by
                    rw [List.drop_eq_getElem_cons hpl]
                    rw [List.getElem?_eq_getElem hpl] at hy
                    injection hy with hy
                    rw [hy]
                  have l1 : (rs1.take p).length = p := by rw [List.length_take]; omega
                  rw [e1, e2, List.append_assoc, List.append_assoc, List.append_assoc, List.set_append_right _ _ (by omega), l1, List.set_append_right _ _ (by omega), l1]
                  simp
                have e1 : ((p + 1 : Nat) : Int) - 1 = (p : Int) := by omega
                have i1 : (p : Int) < (n : Int) + 1 := by omega
                have i2 : (p : Int) + 1 < (n : Int) + 1 := by omega
                have i3 : (0 : Int) < ((p + 1 : Nat) : Int) := by omega
                have i4 : (0 : Int) < (p : Int) + 1 := by omega
                have i5 : p < n + 1 := by omega
                have i6 : p < n := by omega
                have hgm : ¬ (g = mb) := f19 _ rfl
                have hgm2 : ¬ (mb = g) := fun e => hgm e.symm
                clear hcl hfr
                have H_hy := Box.mk hy
                have H_htl := Box.mk htl
                have H_x1 := Box.mk x1
                have H_x0 := Box.mk x0
                have H_hnext := Box.mk hnext
                clear hy htl x1 x0 hnext
                go_wp2_with fail
                go_quiet (fail)
                go_wp2_with fail
                go_region
                go_wp2_with fail
                go_roundw
                case rel =>
                  exact ⟨p, by omega, by omega, by first | rfl | go_num, ((below_drewN hbv _).setCell (show w.heap.size ≤ g by omega) _).setCell (show w.heap.size ≤ g by omega) _, by rw [← H_hnext.out]; exact ((ow.drewN _).setAt (by omega) _).setAt (by omega) _, ((hkx.trans (.below (below_drewN (Below.refl _ _) _))).trans (.set _ _ _)).trans (.set _ _ _)⟩
                case measure => first | (simp [intOf]; done) | (simp [intOf]; omega)
              · obtain rfl : p = L := by omega
                have a9lo := ow.addr
                have g1 : Far a9 (w.heap.size + 1) := fun ad e => by have := (a9lo ad e).1; omega
                have Rv := R16.keptX hkx g1
                have qv := q16.keptX hkx (fun ad bd e1 e2 => by rw [hqb1' ad e1]; exact f29 bd e2)
                have uv := u16.keptX hkx (fun ad bd e1 e2 => f39 ad e1 bd e2)
                clear a9lo
                cases p with
                | zero =>
                  have i3 : ¬ (0 : Int) < ((0 : Nat) : Int) := by omega
                  go_wp2_with fail
                  go_quiet (fail)
                  go_wp2_with fail
                  go_roundw
                  case rel =>
                    exact ⟨W1, insL rs1 t, r, o1 ++ [t], _, n + 1, c9, (some ⟨b, o + 2, none⟩), (m - 1), (d - 1), a5, k + 1, c5, rfl, ⟨below_drewN hbv _, Rv.drewN _, Mv.drewN _, by rw [H_hins.out]; exact ow.drewN _, qv.drewN _, hqb1', uv.drewN _, f19, f29, f39, by have := H_hm1.out; omega, by have := H_hm1.out; omega, by have := H_hm1.out; omega⟩, HN⟩
                  case measure => simp [lenS]; omega
                | succ p =>
                  have hpl : p < rs1.length := by have := H_hn14.out; omega
                  obtain ⟨y, hy⟩ : ∃ y, rs1[p]? = some y := ⟨_, List.getElem?_eq_getElem hpl⟩
                  have hty : ¬ t < y := by
                    have h1 := (H_hiff.out p hpl).2 (by omega)
                    rw [hy] at h1
                    have h2 : y < t := h1
                    omega
                  have hyt : y ≤ t := by omega
                  have htl : (rs1.take (p + 1)).length = p + 1 := by rw [List.length_take]; omega
                  have x1 : ((rs1.take (p + 1) ++ [t] ++ rs1.drop (p + 1)).map (Value.int .i64))[p + 1]? = some (.int .i64 t) := by
                    rw [List.getElem?_map, List.append_assoc, List.getElem?_append_right (by omega), htl, Nat.sub_self]; rfl
                  have x0 : ((rs1.take (p + 1) ++ [t] ++ rs1.drop (p + 1)).map (Value.int .i64))[p]? = some (.int .i64 y) := by
                    rw [List.getElem?_map, List.append_assoc, List.getElem?_append_left (by omega), List.getElem?_take, if_pos (by omega), hy]; rfl
                  obtain ⟨g, rfl, hg1, hg2, hcl, hfr⟩ := ow.at (by omega)
                  have c1 := hcl _ _ x1
                  have c0 := hcl _ _ x0
                  have e1 : ((p + 1 : Nat) : Int) - 1 = (p : Int) := by omega
                  have i1 : (p : Int) < (n : Int) + 1 := by omega
                  have i2 : (p : Int) + 1 < (n : Int) + 1 := by omega
                  have i3 : (0 : Int) < ((p + 1 : Nat) : Int) := by omega
                  have i4 : (0 : Int) < (p : Int) + 1 := by omega
                  have i5 : p < n + 1 := by omega
                  have i6 : p < n := by omega
                  clear hcl hfr
                  have H_hy := Box.mk hy
                  have H_htl := Box.mk htl
                  have H_x1 := Box.mk x1
                  have H_x0 := Box.mk x0
                  clear hy htl x1 x0
                  go_wp2_with fail
                  go_quiet (fail)
                  go_wp2_with fail
                  go_roundw
                  case rel =>
                    exact ⟨W1, insL rs1 t, r, o1 ++ [t], _, n + 1, c9, (some ⟨b, o + 2, none⟩), (m - 1), (d - 1), a5, k + 1, c5, rfl, ⟨below_drewN hbv _, Rv.drewN _, Mv.drewN _, by rw [H_hins.out]; exact ow.drewN _, qv.drewN _, hqb1', uv.drewN _, f19, f29, f39, by have := H_hm1.out; omega, by have := H_hm1.out; omega, by have := H_hm1.out; omega⟩, HN⟩
                  case measure => simp [lenS]; omega

end Go.Proofs.Ytnkbbfeaodppgaa
