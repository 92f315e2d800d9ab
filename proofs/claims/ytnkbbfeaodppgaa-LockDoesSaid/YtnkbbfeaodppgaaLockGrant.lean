/- The package lock: grant. -/
import Derived.Test.YtnkbbfeaodppgaaLockTheory
import Derived.Test.YtnkbbfeaodppgaaRegMore
import Derived.Test.YtnkbbfeaodppgaaOwnAt
import Derived.Deep.Cut
namespace Go.Proofs.Ytnkbbfeaodppgaa
set_option linter.unusedSimpArgs false
set_option linter.unusedVariables false
set_option linter.unnecessarySimpa false
open Go.RowKit

abbrev GrR := Int × List Int × Waits × List Int
def appR (o : List Int) (r : GrR) : GrR := (r.1, r.2.1, r.2.2.1, o ++ r.2.2.2)
theorem appR_nil (r : GrR) : appR [] r = r := rfl
theorem appR_app (o p : List Int) (r : GrR) : appR (o ++ p) r = appR o (appR p r) := by simp [appR]
theorem grantP_no {W : Int} {rs : List Int} {t : Int} {b : Bool} {q : Waits} (h : canB W rs b = false) : grantP W rs ((t, b) :: q) = (W, rs, (t, b) :: q, []) := by
  rw [grantP, if_neg (by rw [h]; decide)]
theorem grantP_nil (W : Int) (rs : List Int) : grantP W rs [] = (W, rs, [], []) := rfl
theorem canB_w {W : Int} {rs : List Int} {b : Bool} (h : W ≠ -1) : canB W rs b = false := by unfold canB; rw [beq_eq_false_iff_ne.2 h]; rfl
theorem grantP_held {W : Int} (h : W ≠ -1) (rs : List Int) : ∀ q : Waits, grantP W rs q = (W, rs, q, [])
  | [] => rfl
  | (t, b) :: q => grantP_no (canB_w h)
theorem grantP_w {W : Int} {rs : List Int} {t : Int} {q : Waits} (h : canB W rs true = true) (ht : t ≠ -1) : grantP W rs ((t, true) :: q) = appR [t] (grantP t rs q) := by
  rw [grantP, if_pos h, if_pos rfl, grantP_held ht]; rfl
theorem grantP_r {W : Int} {rs : List Int} {t : Int} {q : Waits} (h : canB W rs false = true) : grantP W rs ((t, false) :: q) = appR [t] (grantP W (insL rs t) q) := by
  rw [grantP, if_pos h, if_neg (by simp)]; rfl

/-- The waiting tasks are none of the readers, and differ. -/
structure Wq (rs : List Int) (q : Waits) : Prop where
  inc : rs.Pairwise (· < ·)
  far : ∀ w ∈ q, w.1 ≠ -1 ∧ w.1 ∉ rs
  nd : (q.map (·.1)).Nodup
theorem Wq.tail {rs : List Int} {t : Int} {b : Bool} {q : Waits} (h : Wq rs ((t, b) :: q)) : Wq rs q :=
  ⟨h.inc, fun w hw => h.far w (List.mem_cons_of_mem _ hw), (List.nodup_cons.1 h.nd).2⟩
theorem Wq.ne {rs : List Int} {t : Int} {b : Bool} {q : Waits} (h : Wq rs ((t, b) :: q)) : t ≠ -1 := (h.far (t, b) (by simp)).1
theorem Wq.ins {rs : List Int} {t : Int} {b : Bool} {q : Waits} (h : Wq rs ((t, b) :: q)) : Wq (insL rs t) q :=
  ⟨insL_inc t rs h.inc (h.far (t, b) (by simp)).2, fun w hw => ⟨(h.far w (List.mem_cons_of_mem _ hw)).1, fun hm => by
    rcases (insL_mem t w.1 rs).1 hm with e | hm
    · exact (List.nodup_cons.1 h.nd).1 (List.mem_map.2 ⟨w, hw, e⟩)
    · exact (h.far w (List.mem_cons_of_mem _ hw)).2 hm⟩, (List.nodup_cons.1 h.nd).2⟩

/-- An address in another block. -/
def Far (a : Option Addr) (B : Nat) : Prop := ∀ ad, a = some ad → ad.block ≠ B
/-- The state of grant's loop. -/
structure GSt (ra0 qa0 : Option Addr) (w wr : World) (base T : Nat) (W : Int) (rs : List Int) (q : Waits) (out : List Int) (ra : Option Addr) (n c : Nat) (qa : Option Addr) (m d : Nat) (sa : Option Addr) (k e : Nat) : Prop where
  hb : Below w.heap.size w wr
  O : Blk wr w.heap.size 25 [.int .i64 W, .slice ra n c, .slice qa m d]
  R : Blk wr (w.heap.size + 1) 25 [.int .i64 0, .slice none 0 0, .slice none 0 0]
  rs : OwnX wr base 3 1 (.slice ra n c) n (rs.map (Value.int .i64))
  rfar : ∀ ad, ra = some ad → ad.block ≠ w.heap.size ∧ ad.block ≠ w.heap.size + 1
  q : CellsAt wr qa (celW q)
  qlt : ∀ ad, qa = some ad → ad.block < w.heap.size
  out : OwnX wr (w.heap.size + 2) 3 1 (.slice sa k e) k (out.map (Value.int .i64))
  ne : ∀ ad bd, ra = some ad → sa = some bd → ad.block ≠ bd.block
  md : m ≤ d
  n1 : n + m ≤ 1000000
  k1 : k + m = T
  rsrc : ∀ B, B < w.heap.size → Far ra0 B → Far ra B
  qsrc : ∀ B, Far qa0 B → Far qa B
/-- What a lock and a list are, as values. -/
structure GRes (ra0 qa0 : Option Addr) (N : Nat) (w : World) (r : GrR) (a1 : Option Addr) (n1 : Nat) (a2 : Option Addr) (n2 : Nat) (a3 : Option Addr) (n3 : Nat) : Prop where
  l : LockIn w r.2.1 r.2.2.1 a1 a2 n1 n2
  olen : n3 = r.2.2.2.length
  out : CellsAt w a3 (r.2.2.2.map (Value.int .i64))
  fr : ∀ B, B < N → Far ra0 B → Far a1 B
  fq : ∀ B, Far qa0 B → Far a2 B
  fo : ∀ B, B < N → Far a3 B
def lenS : Value → Nat
  | .slice _ n _ => n
  | _ => 0
/-- The world's facts of the lock's block. -/
theorem blk3 {w : World} {B t : Nat} {x y z : Value} (h : Blk w B t [x, y, z]) : w.cell? ⟨B, 0, none⟩ = some x ∧ w.cell? ⟨B, 1, none⟩ = some y ∧ w.cell? ⟨B, 2, none⟩ = some z ∧ w.frozen? ⟨B, 0, none⟩ = false ∧ w.frozen? ⟨B, 1, none⟩ = false ∧ w.frozen? ⟨B, 2, none⟩ = false ∧ B < w.heap.size :=
  ⟨h.cell rfl, h.cell rfl, h.cell rfl, h.free 0, h.free 1, h.free 2, h.lt⟩

theorem CellsAt.wait1 {w : World} {a : Option Addr} {t : Int} {b0 : Bool} {r : Waits} (h : CellsAt w a (celW ((t, b0) :: r))) :
    ∃ b o, a = some ⟨b, o, none⟩ ∧ w.cell? ⟨b, o, none⟩ = some (.int .i64 t) ∧ w.cell? ⟨b, o + 1, none⟩ = some (.bool b0) ∧ CellsAt w (some ⟨b, o + 2, none⟩) (celW r) := by
  rw [celW_cons] at h
  rcases h with h | ⟨b, o, rfl, h⟩
  · cases h
  · refine ⟨b, o, rfl, h 0 _ rfl, h 1 _ rfl, .inr ⟨b, o + 2, rfl, fun j u hj => ?_⟩⟩
    have := h (j + 2) u (by simpa using hj)
    rwa [show o + (j + 2) = o + 2 + j by omega] at this
theorem grantP_out {W W1 : Int} {rs rs1 : List Int} {q q1 : Waits} {o1 : List Int} {res : GrR} (h : grantP W rs q = appR o1 (grantP W1 rs1 q1)) (h1 : grantP W1 rs1 q1 = (W1, rs1, q1, [])) (h2 : grantP W rs q = res) : res = (W1, rs1, q1, o1) := by
  rw [← h2, h, h1]; simp [appR]

theorem wp_facts {P : Program} {c : Code} {Q : Exit → Act → World → Prop} {a : Act} {w : World} (Φ : World → Prop) (h : Φ w) (k : ∀ w', Φ w' → Code.wp P c Q a w') : Code.wp P c Q a w := k w h
theorem blk_grown {w w1 : World} {B t : Nat} {cs : List Value} {row : Option Nat} (h : Blk w B t cs) (hg : w.grownBy w1 row) (hne : some B ≠ row) : Blk w1 B t cs := (hg.block B h.lt hne).trans h
theorem cellsAt_grown {w w1 : World} {a : Option Addr} {cs : List Value} {row : Option Nat} (h : CellsAt w a cs) (hg : w.grownBy w1 row) (hne : ∀ ad, a = some ad → some ad.block ≠ row) : CellsAt w1 a cs := by
  rcases h with h | ⟨b, o, rfl, h⟩
  · exact .inl h
  · refine .inr ⟨b, o, rfl, fun j u hj => ?_⟩
    have hc := h j u hj
    exact (World.cell?_of_block (hg.block b (World.block_lt_of_cell? _ _ hc) (hne _ rfl))).trans hc
theorem blk2 {w : World} {B t : Nat} {x y : Value} (h : Blk w B t [x, y]) : w.cell? ⟨B, 0, none⟩ = some x ∧ w.cell? ⟨B, 1, none⟩ = some y ∧ B < w.heap.size := ⟨h.cell rfl, h.cell rfl, h.lt⟩
/-- Behind region 4. -/
structure GMid (w W : World) (base : Nat) (W1 : Int) (rs : List Int) (q : Waits) (out : List Int) (ra : Option Addr) (n c : Nat) (qa : Option Addr) (m d : Nat) (sa : Option Addr) (k e : Nat) (tb : Nat) (t : Int) (b0 : Bool) : Prop where
  hb : Below w.heap.size w W
  O : Blk W w.heap.size 25 [.int .i64 W1, .slice ra n c, .slice qa m d]
  R : Blk W (w.heap.size + 1) 25 [.int .i64 0, .slice none 0 0, .slice none 0 0]
  T : Blk W tb 34 [.int .i64 t, .bool b0]
  rs : OwnX W base 3 1 (.slice ra n c) n (rs.map (Value.int .i64))
  q : CellsAt W qa (celW q)
  out : OwnX W (w.heap.size + 2) 3 1 (.slice sa k e) k (out.map (Value.int .i64))
def VNew (t : TypeId) (n : Nat) (cs : List Value) : Value → World → Prop := fun v w => ∃ B c, v = .slice (some ⟨B, 0, none⟩) n c ∧ Blk w B t cs
theorem VNew.last {t : TypeId} {n : Nat} {cs : List Value} (v : Value) (w w' : World) (h : VNew t n cs v w) (hb : Below w.heap.size w w') : VNew t n cs v w' := by
  obtain ⟨B, c, rfl, h⟩ := h
  exact ⟨B, c, rfl, h.later hb⟩

/- The end; $1 the queue's address, $2 its length. -/
/- The loop's head, the lock can be had or not. -/

/- Behind the head: the first that waits has it. $1 the rest's address, $2 its length, $3 its capacity. -/

set_option maxRecDepth 100000 in
set_option maxHeartbeats 4000000 in
theorem grant_any (W : Int) (rs : List Int) (q : Waits) (ra qa : Option Addr) (rn rc qn qc base : Nat) (w : World) (hbase : base ≤ w.heap.size) (hr : OwnX w base 3 1 (.slice ra rn rc) rn (rs.map (Value.int .i64))) (hq : CellsAt w qa (celW q)) (hql : qn = q.length) (hqlt : ∀ ad, qa = some ad → ad.block < w.heap.size) (hmd : qn ≤ qc) (hmx : rn + qn ≤ 1000000) (hwq : Wq rs q) :
    Calls Try.prog 33 #[.agg #[.int .i64 W, .slice ra rn rc, .slice qa qn qc]] w fun e w' =>
      ∃ a1 n1 c1 a2 n2 c2 a3 n3 c3, e = .returned (.tuple #[.agg #[.int .i64 (grantP W rs q).1, .slice a1 n1 c1, .slice a2 n2 c2], .slice a3 n3 c3]) ∧ GRes ra qa w.heap.size w' (grantP W rs q) a1 n1 a2 n2 a3 n3 ∧ n2 ≤ c2 ∧ Below w.heap.size w w' := by
  obtain ⟨i0, hi, hz0, hz1, hz2⟩ := info_parts info_i64
  obtain ⟨res, hres⟩ : ∃ res, grantP W rs q = res := ⟨_, rfl⟩
  rw [hres]
  have hGr : grantP W rs q = appR [] (grantP W rs q) := rfl
  have rown := hr.addr
  have rlt := hr.len
  have H_hres := Box.mk hres
  have H_hql := Box.mk hql
  have H_hwq := Box.mk hwq
  have H_hGr := Box.mk hGr
  clear hres hql hwq hGr
  go_enter Try.func33, Try.ntmps33
  have hb0 := Below.refl w.heap.size w
  go_wp2_with fail
  go_loopw [4] (fun s wr => ∃ W1 rs1 q1 o1 rb n c qb m d sa k e, s = .slice sa k e ∧ GSt ra qa w wr base qn W1 rs1 q1 o1 rb n c qb m d sa k e ∧ Box (grantP W rs q = appR o1 (grantP W1 rs1 q1) ∧ Wq rs1 q1 ∧ m = q1.length)) (fun s _ => qn - lenS s)
  case atStart =>
    refine ⟨W, rs, q, [], ra, rn, rc, qa, qn, qc, none, 0, 0, rfl, ⟨?_, ?_, ?_, (hr.alloc _).alloc _, fun ad e => ?_, (hq.alloc _).alloc _, hqlt, OwnX.nil _ _ _ _, fun ad bd _ e => (by cases e), hmd, hmx, by omega, fun _ _ h => h, fun _ h => h⟩, Box.mk ⟨H_hGr.out, H_hwq.out, H_hql.out⟩⟩
    · exact below_alloc2 _ _ _
    · exact (Blk.new _ _ _ _ rfl).alloc _
    · exact Blk.new _ _ _ _ (by simp)
    · have := (rown ad e).2; omega
  case round =>
    obtain ⟨W1, rs1, q1, o1, ra1, n, c, qa1, m, d, sa, k, e1, rfl, hS, HB⟩ := hrel
    obtain ⟨hbw, hO, R, hrs1, rfar, hq1, qlt, hout, hne, hmd1, hn1, hk1, rsrc, qsrc⟩ := hS
    obtain ⟨O_0, O_1, O_2, O_f0, O_f1, O_f2, O_l⟩ := blk3 hO
    cases q1 with
    | nil =>
      obtain rfl : m = 0 := HB.out.2.2
      have HE := Box.mk (grantP_out HB.out.1 (grantP_nil _ _) H_hres.out)
      have HQ := Box.mk HB.out.2.2
      go_wp2_with fail
      refine wp_gen fun w11 hc11 => ?_
      have hb11 : Below w.heap.size w w11 := bchain (by repeat' (first | with_reducible exact hbw | with_reducible refine Below.drew ?_ | with_reducible refine below_drewN ?_ _ | with_reducible refine Below.alloc ?_ (by have := hbw.size; first | (simp; done) | (simp; omega) | omega) _ | with_reducible refine Below.setCell ?_ (by first | (simp; done) | (simp; omega) | omega) _)) hc11
      have hst11 : Below wr.heap.size wr w11 := bchain (by repeat' (first | with_reducible exact Below.refl _ _ | with_reducible refine Below.drew ?_ | with_reducible refine below_drewN ?_ _ | with_reducible refine Below.alloc ?_ (by first | (simp; done) | (simp; omega) | omega) _ | with_reducible refine Below.setCell ?_ (by first | (simp; done) | (simp; omega) | omega) _)) hc11
      replace O_0 := cell_later hst11 O_0
      replace O_1 := cell_later hst11 O_1
      replace O_2 := cell_later hst11 O_2
      replace O_l := Nat.lt_of_lt_of_le O_l hst11.size
      replace R := R.later hst11
      replace hrs1 := hrs1.later hst11
      replace hq1 := hq1.later hst11
      replace hout := hout.later hst11
      clear hst11
      have KO_0 := cell_on O_0
      have KO_1 := cell_on O_1
      have KO_2 := cell_on O_2
      refine wp_region_on (by kernel_rfl) (by kernel_rfl) ?_
      repeat (go_big_quiet_step (fail))
      refine wpQuiet_nil ?_
      intro w12 hc12
      clear KO_0 KO_1 KO_2
      have hb12 : Below w.heap.size w w12 := bchain (by repeat' (first | with_reducible exact hb11 | with_reducible refine Below.drew ?_ | with_reducible refine below_drewN ?_ _ | with_reducible refine Below.alloc ?_ (by have := hb11.size; first | (simp; done) | (simp; omega) | omega) _ | with_reducible refine Below.setCell ?_ (by first | (simp; done) | (simp; omega) | omega) _)) hc12
      have hst12 : Below w11.heap.size w11 w12 := bchain (by repeat' (first | with_reducible exact Below.refl _ _ | with_reducible refine Below.drew ?_ | with_reducible refine below_drewN ?_ _ | with_reducible refine Below.alloc ?_ (by first | (simp; done) | (simp; omega) | omega) _ | with_reducible refine Below.setCell ?_ (by first | (simp; done) | (simp; omega) | omega) _)) hc12
      replace O_0 := cell_later hst12 O_0
      replace O_1 := cell_later hst12 O_1
      replace O_2 := cell_later hst12 O_2
      replace O_l := Nat.lt_of_lt_of_le O_l hst12.size
      replace R := R.later hst12
      replace hrs1 := hrs1.later hst12
      replace hq1 := hq1.later hst12
      replace hout := hout.later hst12
      clear hst12
      obtain ⟨R_0, R_1, R_2, R_f0, R_f1, R_f2, R_l⟩ := blk3 R
      have hl1 := hrs1.len
      have hl2 := hout.len
      rw [List.length_map] at hl1 hl2
      have p1 : ∀ ad : Addr, ra1 = some ad → ad.block ≠ w.heap.size + 1 := fun ad e => (rfar ad e).2
      have p2 : ∀ ad : Addr, (qa1 : Option Addr) = some ad → ad.block ≠ w.heap.size + 1 := fun ad e => by have := qlt ad e; omega
      go_wp2_with fail
      rw [HE.out]
      refine bodyPost_ret (v := .tuple #[.agg #[.int .i64 W1, .slice ra1 n c, .slice qa1 0 d], .slice sa k e1]) (by simp [results, Try.results33, go_sem, *]) rfl ⟨ra1, n, c, qa1, 0, d, sa, k, e1, rfl, ⟨⟨by simp only; omega, HQ.out, ?_, ?_, by omega, by omega⟩, by simp only; omega, ?_, rsrc, qsrc, fun B hB ad e => by have := (hout.addr ad e).1; omega⟩, hmd1, (by repeat' (first | with_reducible exact hb12 | with_reducible refine Below.drew ?_ | with_reducible refine below_drewN ?_ _ | with_reducible refine Below.alloc ?_ (by have := hb12.size; first | (simp; done) | (simp; omega) | omega) _ | with_reducible refine Below.setCell ?_ (by first | (simp; done) | (simp; omega) | omega) _))⟩
      · exact ((hrs1.cellsAt.setFarG p1 _).setFarG p1 _).setFarG p1 _
      · exact ((hq1.setFarG p2 _).setFarG p2 _).setFarG p2 _
      · exact (((hout.setCell (by simp) _).setCell (by simp) _).setCell (by simp) _).cellsAt
    | cons x r =>
      obtain ⟨t, b0⟩ := x
      have hm1 : m = r.length + 1 := HB.out.2.2
      have hmI : (0 : Int) < (m : Int) := by omega
      have hm0 : 0 < m := by omega
      obtain ⟨b, o, rfl, c0, c1, _⟩ := hq1.wait1
      clear c0 c1
      have HQ := Box.mk HB.out.2.2
      obtain ⟨cb, hcb⟩ : ∃ cb, canB W1 rs1 b0 = cb := ⟨_, rfl⟩
      have hrl := hrs1.len
      rw [List.length_map] at hrl
      have hcan : (W1 == -1 && (!b0 || n == 0)) = cb := by rw [← hcb]; unfold canB; rw [hrl, Nat.mul_one]
      have qC : ∀ Wd, Calls Try.prog 41 #[.agg #[.int .i64 W1, .slice ra1 n c, .slice (some ⟨b, o, none⟩) m d], .agg #[.int .i64 t, .bool b0]] Wd fun e w' => e = .returned (.bool cb) ∧ Below Wd.heap.size Wd w' := fun Wd => hcan ▸ can_any W1 _ _ ra1 n c rfl t b0 Wd
      have H_hcan := Box.mk hcan
      have H_qC := Box.mk qC
      have H_hm1 := Box.mk hm1
      have H_hrl := Box.mk hrl
      clear hcan qC hm1 hrl
      cases cb with
      | false =>
        have HE := Box.mk (grantP_out HB.out.1 (grantP_no hcb) H_hres.out)
        have H_hcb := Box.mk hcb
        clear hcb
        go_wp2_with fail
        refine wp_gen fun w11 hc11 => ?_
        have hb11 : Below w.heap.size w w11 := bchain (by repeat' (first | with_reducible exact hbw | with_reducible refine Below.drew ?_ | with_reducible refine below_drewN ?_ _ | with_reducible refine Below.alloc ?_ (by have := hbw.size; first | (simp; done) | (simp; omega) | omega) _ | with_reducible refine Below.setCell ?_ (by first | (simp; done) | (simp; omega) | omega) _)) hc11
        have hst11 : Below wr.heap.size wr w11 := bchain (by repeat' (first | with_reducible exact Below.refl _ _ | with_reducible refine Below.drew ?_ | with_reducible refine below_drewN ?_ _ | with_reducible refine Below.alloc ?_ (by first | (simp; done) | (simp; omega) | omega) _ | with_reducible refine Below.setCell ?_ (by first | (simp; done) | (simp; omega) | omega) _)) hc11
        replace O_0 := cell_later hst11 O_0
        replace O_1 := cell_later hst11 O_1
        replace O_2 := cell_later hst11 O_2
        replace O_l := Nat.lt_of_lt_of_le O_l hst11.size
        replace R := R.later hst11
        replace hrs1 := hrs1.later hst11
        replace hq1 := hq1.later hst11
        replace hout := hout.later hst11
        replace hO := hO.later hst11
        clear hst11
        have KO_0 := cell_on O_0
        have KO_1 := cell_on O_1
        have KO_2 := cell_on O_2
        obtain ⟨_, _, e0, c0, c1, _⟩ := hq1.wait1
        cases e0
        have d0 := cell_on c0
        have d1 := cell_on c1
        refine wp_region_on (by kernel_rfl) (by kernel_rfl) ?_
        repeat (go_big_quiet_step ((first | (go_at_call 41; with_reducible exact calls_on (H_qC.out _)))))
        refine wpQuiet_nil ?_
        intro w12 hc12
        clear KO_0 KO_1 KO_2
        have hb12 : Below w.heap.size w w12 := bchain (by repeat' (first | with_reducible exact hb11 | with_reducible refine Below.drew ?_ | with_reducible refine below_drewN ?_ _ | with_reducible refine Below.alloc ?_ (by have := hb11.size; first | (simp; done) | (simp; omega) | omega) _ | with_reducible refine Below.setCell ?_ (by first | (simp; done) | (simp; omega) | omega) _)) hc12
        have hst12 : Below w11.heap.size w11 w12 := bchain (by repeat' (first | with_reducible exact Below.refl _ _ | with_reducible refine Below.drew ?_ | with_reducible refine below_drewN ?_ _ | with_reducible refine Below.alloc ?_ (by first | (simp; done) | (simp; omega) | omega) _ | with_reducible refine Below.setCell ?_ (by first | (simp; done) | (simp; omega) | omega) _)) hc12
        replace O_0 := cell_later hst12 O_0
        replace O_1 := cell_later hst12 O_1
        replace O_2 := cell_later hst12 O_2
        replace O_l := Nat.lt_of_lt_of_le O_l hst12.size
        replace R := R.later hst12
        replace hrs1 := hrs1.later hst12
        replace hq1 := hq1.later hst12
        replace hout := hout.later hst12
        replace hO := hO.later hst12
        clear hst12
        clear d0 d1 c0 c1
        obtain ⟨_, _, e0, c0, c1, kq⟩ := hq1.wait1
        cases e0
        clear O_f0 O_f1 O_f2
        obtain ⟨_, _, _, O_f0, O_f1, O_f2, _⟩ := blk3 hO
        obtain ⟨R_0, R_1, R_2, R_f0, R_f1, R_f2, R_l⟩ := blk3 R
        have hl1 := hrs1.len
        have hl2 := hout.len
        rw [List.length_map] at hl1 hl2
        have p1 : ∀ ad : Addr, ra1 = some ad → ad.block ≠ w.heap.size + 1 := fun ad e => (rfar ad e).2
        have p2 : ∀ ad : Addr, ((some ⟨b, o, none⟩) : Option Addr) = some ad → ad.block ≠ w.heap.size + 1 := fun ad e => by have := qlt ad e; omega
        go_wp2_with fail
        rw [HE.out]
        refine bodyPost_ret (v := .tuple #[.agg #[.int .i64 W1, .slice ra1 n c, .slice (some ⟨b, o, none⟩) m d], .slice sa k e1]) (by simp [results, Try.results33, go_sem, *]) rfl ⟨ra1, n, c, (some ⟨b, o, none⟩), m, d, sa, k, e1, rfl, ⟨⟨by simp only; omega, HQ.out, ?_, ?_, by omega, by omega⟩, by simp only; omega, ?_, rsrc, qsrc, fun B hB ad e => by have := (hout.addr ad e).1; omega⟩, hmd1, (by repeat' (first | with_reducible exact hb12 | with_reducible refine Below.drew ?_ | with_reducible refine below_drewN ?_ _ | with_reducible refine Below.alloc ?_ (by have := hb12.size; first | (simp; done) | (simp; omega) | omega) _ | with_reducible refine Below.setCell ?_ (by first | (simp; done) | (simp; omega) | omega) _))⟩
        · exact ((hrs1.cellsAt.setFarG p1 _).setFarG p1 _).setFarG p1 _
        · exact ((hq1.setFarG p2 _).setFarG p2 _).setFarG p2 _
        · exact (((hout.setCell (by simp) _).setCell (by simp) _).setCell (by simp) _).cellsAt
      | true =>
        have H_hcb := Box.mk hcb
        clear hcb
        go_wp2_with fail
        refine wp_gen fun w11 hc11 => ?_
        have hb11 : Below w.heap.size w w11 := bchain (by repeat' (first | with_reducible exact hbw | with_reducible refine Below.drew ?_ | with_reducible refine below_drewN ?_ _ | with_reducible refine Below.alloc ?_ (by have := hbw.size; first | (simp; done) | (simp; omega) | omega) _ | with_reducible refine Below.setCell ?_ (by first | (simp; done) | (simp; omega) | omega) _)) hc11
        have hst11 : Below wr.heap.size wr w11 := bchain (by repeat' (first | with_reducible exact Below.refl _ _ | with_reducible refine Below.drew ?_ | with_reducible refine below_drewN ?_ _ | with_reducible refine Below.alloc ?_ (by first | (simp; done) | (simp; omega) | omega) _ | with_reducible refine Below.setCell ?_ (by first | (simp; done) | (simp; omega) | omega) _)) hc11
        replace O_0 := cell_later hst11 O_0
        replace O_1 := cell_later hst11 O_1
        replace O_2 := cell_later hst11 O_2
        replace O_l := Nat.lt_of_lt_of_le O_l hst11.size
        replace R := R.later hst11
        replace hrs1 := hrs1.later hst11
        replace hq1 := hq1.later hst11
        replace hout := hout.later hst11
        replace hO := hO.later hst11
        clear hst11
        have KO_0 := cell_on O_0
        have KO_1 := cell_on O_1
        have KO_2 := cell_on O_2
        obtain ⟨_, _, e0, c0, c1, _⟩ := hq1.wait1
        cases e0
        have d0 := cell_on c0
        have d1 := cell_on c1
        refine wp_region_on (by kernel_rfl) (by kernel_rfl) ?_
        repeat (go_big_quiet_step ((first | (go_at_call 41; with_reducible exact calls_on (H_qC.out _)))))
        refine wpQuiet_nil ?_
        intro w12 hc12
        clear KO_0 KO_1 KO_2
        have hb12 : Below w.heap.size w w12 := bchain (by repeat' (first | with_reducible exact hb11 | with_reducible refine Below.drew ?_ | with_reducible refine below_drewN ?_ _ | with_reducible refine Below.alloc ?_ (by have := hb11.size; first | (simp; done) | (simp; omega) | omega) _ | with_reducible refine Below.setCell ?_ (by first | (simp; done) | (simp; omega) | omega) _)) hc12
        have hst12 : Below w11.heap.size w11 w12 := bchain (by repeat' (first | with_reducible exact Below.refl _ _ | with_reducible refine Below.drew ?_ | with_reducible refine below_drewN ?_ _ | with_reducible refine Below.alloc ?_ (by first | (simp; done) | (simp; omega) | omega) _ | with_reducible refine Below.setCell ?_ (by first | (simp; done) | (simp; omega) | omega) _)) hc12
        replace O_0 := cell_later hst12 O_0
        replace O_1 := cell_later hst12 O_1
        replace O_2 := cell_later hst12 O_2
        replace O_l := Nat.lt_of_lt_of_le O_l hst12.size
        replace R := R.later hst12
        replace hrs1 := hrs1.later hst12
        replace hq1 := hq1.later hst12
        replace hout := hout.later hst12
        replace hO := hO.later hst12
        clear hst12
        clear d0 d1 c0 c1
        obtain ⟨_, _, e0, c0, c1, kq⟩ := hq1.wait1
        cases e0
        clear O_f0 O_f1 O_f2
        obtain ⟨_, _, _, O_f0, O_f1, O_f2, _⟩ := blk3 hO
        by_cases hd : d = 1
        · subst hd
          have hr0 : r = [] := List.eq_nil_of_length_eq_zero (by have := H_hm1.out; omega)
          have hm00 : 0 = m - 1 := by have := H_hm1.out; omega
          have kq' : CellsAt w12 (some ⟨b, o, none⟩) (celW r) := .inl (by rw [hr0]; rfl)
          have H_hr0 := Box.mk hr0
          have H_hm00 := Box.mk hm00
          clear hr0 hm00
          clear kq
          have qsrc' : ∀ B, Far qa B → Far (some ⟨b, o, none⟩) B := fun B h ad e => by cases e; exact qsrc B h ⟨b, o, none⟩ rfl
          have qlt' : ∀ ad, ((some ⟨b, o, none⟩) : Option Addr) = some ad → ad.block < w.heap.size := fun ad e => by cases e; exact qlt ⟨b, o, none⟩ rfl
          have q_ne : ∀ ad, ((some ⟨b, o, none⟩) : Option Addr) = some ad → ad.block ≠ w.heap.size := fun ad e => by have := qlt' ad e; omega
          have r_ne : (Value.slice ra1 n c).ownBlock ≠ some w.heap.size := fun e => by
            cases ra1 with
            | none => cases e
            | some ad => exact (rfar ad rfl).1 (by simpa [Value.ownBlock] using e)
          have olt := hout.addr
          go_upto_region 5 with (fail)
          refine wp_facts (fun W => GMid w W base W1 rs1 r o1 ra1 n c (some ⟨b, o, none⟩) 0 0 sa k e1 w12.heap.size t b0) ⟨(by repeat' (first | with_reducible exact hb12 | with_reducible refine Below.drew ?_ | with_reducible refine below_drewN ?_ _ | with_reducible refine Below.alloc ?_ (by have := hb12.size; first | (simp; done) | (simp; omega) | omega) _ | with_reducible refine Below.setCell ?_ (by first | (simp; done) | (simp; omega) | omega) _)), ((hO.set 2 _).alloc _), ((R.setFar (by simp) _).alloc _), Blk.new _ _ _ _ (by simp), ((hrs1.setFar r_ne _).alloc _), ((kq'.setFarG q_ne _).alloc _), ((hout.setCell (by simp) _).alloc _)⟩ ?_
          intro w13 hM
          have o_ne : ∀ B, (∀ bd, sa = some bd → bd.block ≠ B) → some B ≠ (Value.slice sa k e1).ownBlock := fun B h e => by
            cases sa with
            | none => cases e
            | some bd => exact h bd rfl (by simpa [Value.ownBlock] using e.symm)
          have tlt : w.heap.size < w12.heap.size := O_l
          have tlt1 : w.heap.size + 1 < w12.heap.size := R.lt
          generalize w12.heap.size = tb at *
          obtain ⟨hb13, hO13, R13, T13, hrs13, hq13, hout13⟩ := hM
          clear hO R hrs1 hq1 hout O_0 O_1 O_2 O_f0 O_f1 O_f2 O_l c0 c1
          obtain ⟨O_0, O_1, O_2, O_f0, O_f1, O_f2, O_l⟩ := blk3 hO13
          obtain ⟨T_0, T_1, T_l⟩ := blk2 T13
          go_wp2_with (at_builtin; refine stop ?_)
          refine Stop.go ?_
          refine wpList_append_x _ rfl _ _ 22 rfl (w.heap.size + 2) 3 i0 (.int .i64 0) 1 8 Try.underlying22 hi hz0 hz1 hz2 rfl (by decide) (.slice sa k e1) k _ rfl (hout13.alloc _) (some ⟨w13.heap.size, 0, none⟩) 1 1 [.int .i64 t] rfl rfl (cellsAt_one w13 _ _) (oneCell_int _ _) (by unfold maxLen; omega) (by omega) (by simp; omega) ?_
          intro a5 c5 w14 o5 hg hk5
          have r_out : (Value.slice ra1 n c).ownBlock = none ∨ (Value.slice ra1 n c).ownBlock ≠ (Value.slice sa k e1).ownBlock := by
            cases ra1 with
            | none => exact .inl rfl
            | some ad =>
              right
              cases sa with
              | none => simp [Value.ownBlock]
              | some bd => simpa [Value.ownBlock] using hne ad bd rfl rfl
          have hO14 := blk_grown (hO13.alloc _) hg (o_ne _ fun bd e => by have := (olt bd e).1; omega)
          have R14 := blk_grown (R13.alloc _) hg (o_ne _ fun bd e => by have := (olt bd e).1; omega)
          have T14 := blk_grown (T13.alloc _) hg (o_ne _ fun bd e => by have := (olt bd e).2; omega)
          have hrs14 := (hrs13.alloc _).kept hg r_out
          have hq14 := cellsAt_grown (hq13.alloc _) hg (fun ad e => o_ne _ fun bd e2 => by have := qlt' ad e; have := (olt bd e2).1; omega)
          have hb14 : Below w.heap.size w w14 := below_grownX (hb13.alloc (by omega) _) hg (by simp; omega) (fun q h => by have := (hout13.lt q h).1; omega)
          have ne5 : ∀ ad bd, ra1 = some ad → a5 = some bd → ad.block ≠ bd.block := fun ad bd e1 e2 => by
            have h1 := (hrs13.addr ad e1).2
            subst e2
            rcases hk5 bd.block rfl with h | h
            · cases sa with
              | none => cases h
              | some cd =>
                have : cd.block = bd.block := by simpa [Value.ownBlock] using h
                have := hne ad cd e1 rfl
                omega
            · simp at h; omega
          have o5' : OwnX w14 (w.heap.size + 2) 3 1 (.slice a5 (k + 1) c5) (k + 1) ((o1 ++ [t]).map (Value.int .i64)) := by simpa using o5
          have z14 := hg.size
          clear hg hk5 r_out o5 hO13 R13 T13 hrs13 hq13 hout13 O_0 O_1 O_2 O_f0 O_f1 O_f2 O_l T_0 T_1 T_l o_ne olt hne
          obtain ⟨O_0, O_1, O_2, O_f0, O_f1, O_f2, O_l⟩ := blk3 hO14
          obtain ⟨T_0, T_1, T_l⟩ := blk2 T14
          have HB' := HB.out
          clear HB
          cases b0 with
          | true =>
            have HN : Box (grantP W rs q = appR (o1 ++ [t]) (grantP t rs1 r) ∧ Wq rs1 r ∧ 0 = r.length) := Box.mk ⟨by rw [HB'.1, grantP_w H_hcb.out HB'.2.1.ne, appR_app], HB'.2.1.tail, by have := H_hm1.out; have := H_hm00.out; omega⟩
            clear HB'
            go_wp2_with fail
            go_roundw
            case rel =>
              refine ⟨t, rs1, r, o1 ++ [t], ra1, n, c, (some ⟨b, o, none⟩), 0, 0, a5, k + 1, c5, rfl, ⟨hb14.setCell (Nat.le_refl _) _, hO14.set 0 _, R14.setFar (by simp) _, hrs14.setFar r_ne _, rfar, hq14.setFarG q_ne _, qlt', o5'.setCell (by simp) _, ne5, by have := H_hm1.out; omega, by have := H_hm1.out; omega, by have := H_hm1.out; omega, rsrc, qsrc'⟩, HN⟩
            case measure => simp [lenS]; omega
          | false =>
            have HN : Box (grantP W rs q = appR (o1 ++ [t]) (grantP W1 (insL rs1 t) r) ∧ Wq (insL rs1 t) r ∧ 0 = r.length) := Box.mk ⟨by rw [HB'.1, grantP_r H_hcb.out, appR_app], HB'.2.1.ins, by have := H_hm1.out; omega⟩
            have hinc := HB'.2.1.inc
            clear HB'
            have hn14 : n = rs1.length := by have := hrs14.len; simpa using this.symm
            have hLn : lbI rs1 t ≤ n := by rw [hn14]; exact lbI_le rs1 t
            obtain ⟨L, hL⟩ : ∃ L, lbI rs1 t = L := ⟨_, rfl⟩
            rw [hL] at hLn
            have hLI : (L : Int) ≤ (n : Int) := by omega
            have hnI : (n : Int) ≤ 1000000 := by omega
            have hncc := (hrs14.cells)
            have hnc : n ≤ c := by obtain ⟨_, _, e0, h0, _⟩ := hncc; cases e0; exact h0
            clear hncc
            have H_hn14 := Box.mk hn14
            have H_hinc := Box.mk hinc
            have H_hL := Box.mk hL
            clear hn14 hinc hL
            go_wp2_with fail
            with_reducible refine (search_any rs1 t ra1 n c _ H_hn14.out hrs14.cellsAt (by omega) H_hinc.out).mono ?_
            rintro e wx ⟨rfl, rfl⟩
            rw [H_hL.out]
            go_wp2_with fail
            refine wp_gen fun w15 hc15 => ?_
            have hb15 : Below w.heap.size w w15 := bchain (by repeat' (first | with_reducible exact hb14 | with_reducible refine Below.drew ?_ | with_reducible refine below_drewN ?_ _ | with_reducible refine Below.alloc ?_ (by have := hb14.size; first | (simp; done) | (simp; omega) | omega) _ | with_reducible refine Below.setCell ?_ (by first | (simp; done) | (simp; omega) | omega) _)) hc15
            have hst15 : Below w14.heap.size w14 w15 := bchain (by repeat' (first | with_reducible exact Below.refl _ _ | with_reducible refine Below.drew ?_ | with_reducible refine below_drewN ?_ _ | with_reducible refine Below.alloc ?_ (by first | (simp; done) | (simp; omega) | omega) _ | with_reducible refine Below.setCell ?_ (by first | (simp; done) | (simp; omega) | omega) _)) hc15
            replace O_0 := cell_later hst15 O_0
            replace O_1 := cell_later hst15 O_1
            replace O_2 := cell_later hst15 O_2
            replace O_f0 := frozen_later hst15 O_l O_f0
            replace O_f1 := frozen_later hst15 O_l O_f1
            replace O_f2 := frozen_later hst15 O_l O_f2
            replace O_l := Nat.lt_of_lt_of_le O_l hst15.size
            replace T_0 := cell_later hst15 T_0
            replace T_1 := cell_later hst15 T_1
            replace T_l := Nat.lt_of_lt_of_le T_l hst15.size
            replace hO14 := hO14.later hst15
            replace R14 := R14.later hst15
            replace hrs14 := hrs14.later hst15
            replace hq14 := hq14.later hst15
            replace o5' := o5'.later hst15
            clear hst15
            have KO_0 := cell_on O_0
            have KO_1 := cell_on O_1
            have KO_2 := cell_on O_2
            have KT_0 := cell_on T_0
            have KT_1 := cell_on T_1
            have olt15 := o5'.addr
            have y15 := R14.lt
            refine wp_region_on_spec_tail [(12, [], fun _ => VNew 3 1 [.int .i64 t]), (13, [], fun _ => VOwn w15.heap.size 3 1 (n + 1) ((insL rs1 t).map (Value.int .i64)))] [12, 13] [] [(12, []), (13, [])] 15 (by kernel_rfl) (by kernel_rfl) rfl (by kernel_rfl) rfl (by kernel_rfl) ⟨fun _ => VNew.last, fun _ => VOwn.last, trivial⟩ ?_
            try simp only [List.take_succ_cons, List.take_zero, List.drop_succ_cons, List.drop_zero]
            refine wpSpec_quiet 12 (by kernel_rfl) (by kernel_rfl) ?_
            simp only [List.take_succ_cons, List.take_zero, List.drop_succ_cons, List.drop_zero]
            repeat (go_big_quiet_step (fail))
            refine wpQuiet_nil ?_
            show wpSpec _ _ _ _ _ _ _ _ _ _ _
            refine wpSpec_at [] (VNew 3 1 [.int .i64 t]) rfl (by first | rfl | (simp [viewS, Act.eval]; done)) rfl (by first | rfl | (simp [Region.wanted]; done)) ?_ rfl ?_
            · intro wq hq hfq
              clear hfq
              unfold Oper.gives; go_simp; exact ⟨(Below.refl _ _).alloc (Nat.le_refl _) _, _, _, rfl, Blk.new _ _ [.int .i64 t] _ rfl⟩
            rintro x12 ⟨_, ⟨B12, c12, rfl, _⟩⟩
            simp only [Act.put, List.setIfInBounds_toArray, List.set_cons_succ, List.set_cons_zero]
            refine wpSpec_at [] (VOwn w15.heap.size 3 1 (n + 1) ((insL rs1 t).map (Value.int .i64))) rfl (by first | rfl | (simp [viewS, Act.eval]; done)) rfl (by first | rfl | (simp [Region.wanted]; done)) ?_ rfl ?_
            · intro wq hq hfq
              have f12 := hfq 12 (by kernel_rfl)
              simp only [upd, Nat.beq, cond] at f12
              clear hfq
              obtain ⟨_, _, e12, k12⟩ := f12
              cases e12
              refine gives_call 45 _ _ #[.slice ra1 n n, .int .i64 L, .slice (some ⟨B12, 0, none⟩) 1 c12] rfl (by kernel_rfl) (by simp [Act.eval]) ((insI_any L n c base B12 c12 ra1 _ [.int .i64 t] _ hLn (hrs14.later hq) (ints_oneCell _ _) rfl k12 (oneCell_int _ _) (by omega)).mono ?_)
              rintro e w' ⟨a', c', rfl, ho, hb⟩
              refine ⟨_, rfl, hb, a', c', rfl, ?_⟩
              have hx : (insL rs1 t).map (Value.int .i64) = (rs1.map (Value.int .i64)).take L ++ [.int .i64 t] ++ (rs1.map (Value.int .i64)).drop L := by unfold insL; rw [H_hL.out]; simp
              rw [hx]
              exact ho.mono hq.size
            rintro x13 ⟨_, ⟨a13, c13, rfl, _⟩⟩
            simp only [Act.put, List.setIfInBounds_toArray, List.set_cons_succ, List.set_cons_zero]
            refine wpSpec_quiet 1 (by kernel_rfl) (by kernel_rfl) ?_
            simp only [List.take_succ_cons, List.take_zero, List.drop_succ_cons, List.drop_zero]
            repeat (go_big_quiet_step (fail))
            refine wpQuiet_nil ?_
            show wpSpec _ _ _ _ _ _ _ _ _ _ _
            intro w16 hc16 hfq
            have f13 := hfq 13
            simp only [upd, Nat.beq, cond] at f13
            clear hfq
            clear KO_0 KO_1 KO_2 KT_0 KT_1
            have hb16 : Below w.heap.size w w16 := bchain (by repeat' (first | with_reducible exact hb15 | with_reducible refine Below.drew ?_ | with_reducible refine below_drewN ?_ _ | with_reducible refine Below.alloc ?_ (by have := hb15.size; first | (simp; done) | (simp; omega) | omega) _ | with_reducible refine Below.setCell ?_ (by first | (simp; done) | (simp; omega) | omega) _)) hc16
            have hst16 : Below w15.heap.size w15 w16 := bchain (by repeat' (first | with_reducible exact Below.refl _ _ | with_reducible refine Below.drew ?_ | with_reducible refine below_drewN ?_ _ | with_reducible refine Below.alloc ?_ (by first | (simp; done) | (simp; omega) | omega) _ | with_reducible refine Below.setCell ?_ (by first | (simp; done) | (simp; omega) | omega) _)) hc16
            replace O_0 := cell_later hst16 O_0
            replace O_1 := cell_later hst16 O_1
            replace O_2 := cell_later hst16 O_2
            replace O_f0 := frozen_later hst16 O_l O_f0
            replace O_f1 := frozen_later hst16 O_l O_f1
            replace O_f2 := frozen_later hst16 O_l O_f2
            replace O_l := Nat.lt_of_lt_of_le O_l hst16.size
            replace T_0 := cell_later hst16 T_0
            replace T_1 := cell_later hst16 T_1
            replace T_l := Nat.lt_of_lt_of_le T_l hst16.size
            replace hO14 := hO14.later hst16
            replace R14 := R14.later hst16
            replace hrs14 := hrs14.later hst16
            replace hq14 := hq14.later hst16
            replace o5' := o5'.later hst16
            clear hst16
            obtain ⟨_, _, e13, k13⟩ := f13
            cases e13
            have k13a := k13.addr
            go_wp2_with fail
            go_roundw
            case rel =>
              refine ⟨W1, insL rs1 t, r, o1 ++ [t], a13, n + 1, c13, (some ⟨b, o, none⟩), 0, 0, a5, k + 1, c5, rfl, ⟨hb16.setCell (Nat.le_refl _) _, hO14.set 1 _, R14.setFar (by simp) _, ?_, ?_, hq14.setFarG q_ne _, qlt', o5'.setCell (by simp) _, ?_, by have := H_hm1.out; omega, by have := H_hm1.out; omega, by have := H_hm1.out; omega, fun B hB _ ad e => by have := k13a ad e; omega, qsrc'⟩, HN⟩
              · exact (k13.setCell (by simp; omega) _).mono (by omega)
              · exact fun ad e => by have := k13a ad e; omega
              · exact fun ad bd e1 e2 => by have := k13a ad e1; have := olt15 bd e2; omega
            case measure => simp [lenS]; omega
        · have kq' := kq
          have H_hm00 : Box (m - 1 = m - 1) := Box.mk rfl
          clear kq
          have qsrc' : ∀ B, Far qa B → Far (some ⟨b, o + 2, none⟩) B := fun B h ad e => by cases e; exact qsrc B h ⟨b, o, none⟩ rfl
          have qlt' : ∀ ad, ((some ⟨b, o + 2, none⟩) : Option Addr) = some ad → ad.block < w.heap.size := fun ad e => by cases e; exact qlt ⟨b, o, none⟩ rfl
          have q_ne : ∀ ad, ((some ⟨b, o + 2, none⟩) : Option Addr) = some ad → ad.block ≠ w.heap.size := fun ad e => by have := qlt' ad e; omega
          have r_ne : (Value.slice ra1 n c).ownBlock ≠ some w.heap.size := fun e => by
            cases ra1 with
            | none => cases e
            | some ad => exact (rfar ad rfl).1 (by simpa [Value.ownBlock] using e)
          have olt := hout.addr
          go_upto_region 5 with (fail)
          refine wp_facts (fun W => GMid w W base W1 rs1 r o1 ra1 n c (some ⟨b, o + 2, none⟩) (m - 1) (d - 1) sa k e1 w12.heap.size t b0) ⟨(by repeat' (first | with_reducible exact hb12 | with_reducible refine Below.drew ?_ | with_reducible refine below_drewN ?_ _ | with_reducible refine Below.alloc ?_ (by have := hb12.size; first | (simp; done) | (simp; omega) | omega) _ | with_reducible refine Below.setCell ?_ (by first | (simp; done) | (simp; omega) | omega) _)), ((hO.set 2 _).alloc _), ((R.setFar (by simp) _).alloc _), Blk.new _ _ _ _ (by simp), ((hrs1.setFar r_ne _).alloc _), ((kq'.setFarG q_ne _).alloc _), ((hout.setCell (by simp) _).alloc _)⟩ ?_
          intro w13 hM
          have o_ne : ∀ B, (∀ bd, sa = some bd → bd.block ≠ B) → some B ≠ (Value.slice sa k e1).ownBlock := fun B h e => by
            cases sa with
            | none => cases e
            | some bd => exact h bd rfl (by simpa [Value.ownBlock] using e.symm)
          have tlt : w.heap.size < w12.heap.size := O_l
          have tlt1 : w.heap.size + 1 < w12.heap.size := R.lt
          generalize w12.heap.size = tb at *
          obtain ⟨hb13, hO13, R13, T13, hrs13, hq13, hout13⟩ := hM
          clear hO R hrs1 hq1 hout O_0 O_1 O_2 O_f0 O_f1 O_f2 O_l c0 c1
          obtain ⟨O_0, O_1, O_2, O_f0, O_f1, O_f2, O_l⟩ := blk3 hO13
          obtain ⟨T_0, T_1, T_l⟩ := blk2 T13
          go_wp2_with (at_builtin; refine stop ?_)
          refine Stop.go ?_
          refine wpList_append_x _ rfl _ _ 22 rfl (w.heap.size + 2) 3 i0 (.int .i64 0) 1 8 Try.underlying22 hi hz0 hz1 hz2 rfl (by decide) (.slice sa k e1) k _ rfl (hout13.alloc _) (some ⟨w13.heap.size, 0, none⟩) 1 1 [.int .i64 t] rfl rfl (cellsAt_one w13 _ _) (oneCell_int _ _) (by unfold maxLen; omega) (by omega) (by simp; omega) ?_
          intro a5 c5 w14 o5 hg hk5
          have r_out : (Value.slice ra1 n c).ownBlock = none ∨ (Value.slice ra1 n c).ownBlock ≠ (Value.slice sa k e1).ownBlock := by
            cases ra1 with
            | none => exact .inl rfl
            | some ad =>
              right
              cases sa with
              | none => simp [Value.ownBlock]
              | some bd => simpa [Value.ownBlock] using hne ad bd rfl rfl
          have hO14 := blk_grown (hO13.alloc _) hg (o_ne _ fun bd e => by have := (olt bd e).1; omega)
          have R14 := blk_grown (R13.alloc _) hg (o_ne _ fun bd e => by have := (olt bd e).1; omega)
          have T14 := blk_grown (T13.alloc _) hg (o_ne _ fun bd e => by have := (olt bd e).2; omega)
          have hrs14 := (hrs13.alloc _).kept hg r_out
          have hq14 := cellsAt_grown (hq13.alloc _) hg (fun ad e => o_ne _ fun bd e2 => by have := qlt' ad e; have := (olt bd e2).1; omega)
          have hb14 : Below w.heap.size w w14 := below_grownX (hb13.alloc (by omega) _) hg (by simp; omega) (fun q h => by have := (hout13.lt q h).1; omega)
          have ne5 : ∀ ad bd, ra1 = some ad → a5 = some bd → ad.block ≠ bd.block := fun ad bd e1 e2 => by
            have h1 := (hrs13.addr ad e1).2
            subst e2
            rcases hk5 bd.block rfl with h | h
            · cases sa with
              | none => cases h
              | some cd =>
                have : cd.block = bd.block := by simpa [Value.ownBlock] using h
                have := hne ad cd e1 rfl
                omega
            · simp at h; omega
          have o5' : OwnX w14 (w.heap.size + 2) 3 1 (.slice a5 (k + 1) c5) (k + 1) ((o1 ++ [t]).map (Value.int .i64)) := by simpa using o5
          have z14 := hg.size
          clear hg hk5 r_out o5 hO13 R13 T13 hrs13 hq13 hout13 O_0 O_1 O_2 O_f0 O_f1 O_f2 O_l T_0 T_1 T_l o_ne olt hne
          obtain ⟨O_0, O_1, O_2, O_f0, O_f1, O_f2, O_l⟩ := blk3 hO14
          obtain ⟨T_0, T_1, T_l⟩ := blk2 T14
          have HB' := HB.out
          clear HB
          cases b0 with
          | true =>
            have HN : Box (grantP W rs q = appR (o1 ++ [t]) (grantP t rs1 r) ∧ Wq rs1 r ∧ (m - 1) = r.length) := Box.mk ⟨by rw [HB'.1, grantP_w H_hcb.out HB'.2.1.ne, appR_app], HB'.2.1.tail, by have := H_hm1.out; have := H_hm00.out; omega⟩
            clear HB'
            go_wp2_with fail
            go_roundw
            case rel =>
              refine ⟨t, rs1, r, o1 ++ [t], ra1, n, c, (some ⟨b, o + 2, none⟩), (m - 1), (d - 1), a5, k + 1, c5, rfl, ⟨hb14.setCell (Nat.le_refl _) _, hO14.set 0 _, R14.setFar (by simp) _, hrs14.setFar r_ne _, rfar, hq14.setFarG q_ne _, qlt', o5'.setCell (by simp) _, ne5, by have := H_hm1.out; omega, by have := H_hm1.out; omega, by have := H_hm1.out; omega, rsrc, qsrc'⟩, HN⟩
            case measure => simp [lenS]; omega
          | false =>
            have HN : Box (grantP W rs q = appR (o1 ++ [t]) (grantP W1 (insL rs1 t) r) ∧ Wq (insL rs1 t) r ∧ (m - 1) = r.length) := Box.mk ⟨by rw [HB'.1, grantP_r H_hcb.out, appR_app], HB'.2.1.ins, by have := H_hm1.out; omega⟩
            have hinc := HB'.2.1.inc
            clear HB'
            have hn14 : n = rs1.length := by have := hrs14.len; simpa using this.symm
            have hLn : lbI rs1 t ≤ n := by rw [hn14]; exact lbI_le rs1 t
            obtain ⟨L, hL⟩ : ∃ L, lbI rs1 t = L := ⟨_, rfl⟩
            rw [hL] at hLn
            have hLI : (L : Int) ≤ (n : Int) := by omega
            have hnI : (n : Int) ≤ 1000000 := by omega
            have hncc := (hrs14.cells)
            have hnc : n ≤ c := by obtain ⟨_, _, e0, h0, _⟩ := hncc; cases e0; exact h0
            clear hncc
            have H_hn14 := Box.mk hn14
            have H_hinc := Box.mk hinc
            have H_hL := Box.mk hL
            clear hn14 hinc hL
            go_wp2_with fail
            with_reducible refine (search_any rs1 t ra1 n c _ H_hn14.out hrs14.cellsAt (by omega) H_hinc.out).mono ?_
            rintro e wx ⟨rfl, rfl⟩
            rw [H_hL.out]
            go_wp2_with fail
            refine wp_gen fun w15 hc15 => ?_
            have hb15 : Below w.heap.size w w15 := bchain (by repeat' (first | with_reducible exact hb14 | with_reducible refine Below.drew ?_ | with_reducible refine below_drewN ?_ _ | with_reducible refine Below.alloc ?_ (by have := hb14.size; first | (simp; done) | (simp; omega) | omega) _ | with_reducible refine Below.setCell ?_ (by first | (simp; done) | (simp; omega) | omega) _)) hc15
            have hst15 : Below w14.heap.size w14 w15 := bchain (by repeat' (first | with_reducible exact Below.refl _ _ | with_reducible refine Below.drew ?_ | with_reducible refine below_drewN ?_ _ | with_reducible refine Below.alloc ?_ (by first | (simp; done) | (simp; omega) | omega) _ | with_reducible refine Below.setCell ?_ (by first | (simp; done) | (simp; omega) | omega) _)) hc15
            replace O_0 := cell_later hst15 O_0
            replace O_1 := cell_later hst15 O_1
            replace O_2 := cell_later hst15 O_2
            replace O_f0 := frozen_later hst15 O_l O_f0
            replace O_f1 := frozen_later hst15 O_l O_f1
            replace O_f2 := frozen_later hst15 O_l O_f2
            replace O_l := Nat.lt_of_lt_of_le O_l hst15.size
            replace T_0 := cell_later hst15 T_0
            replace T_1 := cell_later hst15 T_1
            replace T_l := Nat.lt_of_lt_of_le T_l hst15.size
            replace hO14 := hO14.later hst15
            replace R14 := R14.later hst15
            replace hrs14 := hrs14.later hst15
            replace hq14 := hq14.later hst15
            replace o5' := o5'.later hst15
            clear hst15
            have KO_0 := cell_on O_0
            have KO_1 := cell_on O_1
            have KO_2 := cell_on O_2
            have KT_0 := cell_on T_0
            have KT_1 := cell_on T_1
            have olt15 := o5'.addr
            have y15 := R14.lt
            refine wp_region_on_spec_tail [(12, [], fun _ => VNew 3 1 [.int .i64 t]), (13, [], fun _ => VOwn w15.heap.size 3 1 (n + 1) ((insL rs1 t).map (Value.int .i64)))] [12, 13] [] [(12, []), (13, [])] 15 (by kernel_rfl) (by kernel_rfl) rfl (by kernel_rfl) rfl (by kernel_rfl) ⟨fun _ => VNew.last, fun _ => VOwn.last, trivial⟩ ?_
            try simp only [List.take_succ_cons, List.take_zero, List.drop_succ_cons, List.drop_zero]
            refine wpSpec_quiet 12 (by kernel_rfl) (by kernel_rfl) ?_
            simp only [List.take_succ_cons, List.take_zero, List.drop_succ_cons, List.drop_zero]
            repeat (go_big_quiet_step (fail))
            refine wpQuiet_nil ?_
            show wpSpec _ _ _ _ _ _ _ _ _ _ _
            refine wpSpec_at [] (VNew 3 1 [.int .i64 t]) rfl (by first | rfl | (simp [viewS, Act.eval]; done)) rfl (by first | rfl | (simp [Region.wanted]; done)) ?_ rfl ?_
            · intro wq hq hfq
              clear hfq
              unfold Oper.gives; go_simp; exact ⟨(Below.refl _ _).alloc (Nat.le_refl _) _, _, _, rfl, Blk.new _ _ [.int .i64 t] _ rfl⟩
            rintro x12 ⟨_, ⟨B12, c12, rfl, _⟩⟩
            simp only [Act.put, List.setIfInBounds_toArray, List.set_cons_succ, List.set_cons_zero]
            refine wpSpec_at [] (VOwn w15.heap.size 3 1 (n + 1) ((insL rs1 t).map (Value.int .i64))) rfl (by first | rfl | (simp [viewS, Act.eval]; done)) rfl (by first | rfl | (simp [Region.wanted]; done)) ?_ rfl ?_
            · intro wq hq hfq
              have f12 := hfq 12 (by kernel_rfl)
              simp only [upd, Nat.beq, cond] at f12
              clear hfq
              obtain ⟨_, _, e12, k12⟩ := f12
              cases e12
              refine gives_call 45 _ _ #[.slice ra1 n n, .int .i64 L, .slice (some ⟨B12, 0, none⟩) 1 c12] rfl (by kernel_rfl) (by simp [Act.eval]) ((insI_any L n c base B12 c12 ra1 _ [.int .i64 t] _ hLn (hrs14.later hq) (ints_oneCell _ _) rfl k12 (oneCell_int _ _) (by omega)).mono ?_)
              rintro e w' ⟨a', c', rfl, ho, hb⟩
              refine ⟨_, rfl, hb, a', c', rfl, ?_⟩
              have hx : (insL rs1 t).map (Value.int .i64) = (rs1.map (Value.int .i64)).take L ++ [.int .i64 t] ++ (rs1.map (Value.int .i64)).drop L := by unfold insL; rw [H_hL.out]; simp
              rw [hx]
              exact ho.mono hq.size
            rintro x13 ⟨_, ⟨a13, c13, rfl, _⟩⟩
            simp only [Act.put, List.setIfInBounds_toArray, List.set_cons_succ, List.set_cons_zero]
            refine wpSpec_quiet 1 (by kernel_rfl) (by kernel_rfl) ?_
            simp only [List.take_succ_cons, List.take_zero, List.drop_succ_cons, List.drop_zero]
            repeat (go_big_quiet_step (fail))
            refine wpQuiet_nil ?_
            show wpSpec _ _ _ _ _ _ _ _ _ _ _
            intro w16 hc16 hfq
            have f13 := hfq 13
            simp only [upd, Nat.beq, cond] at f13
            clear hfq
            clear KO_0 KO_1 KO_2 KT_0 KT_1
            have hb16 : Below w.heap.size w w16 := bchain (by repeat' (first | with_reducible exact hb15 | with_reducible refine Below.drew ?_ | with_reducible refine below_drewN ?_ _ | with_reducible refine Below.alloc ?_ (by have := hb15.size; first | (simp; done) | (simp; omega) | omega) _ | with_reducible refine Below.setCell ?_ (by first | (simp; done) | (simp; omega) | omega) _)) hc16
            have hst16 : Below w15.heap.size w15 w16 := bchain (by repeat' (first | with_reducible exact Below.refl _ _ | with_reducible refine Below.drew ?_ | with_reducible refine below_drewN ?_ _ | with_reducible refine Below.alloc ?_ (by first | (simp; done) | (simp; omega) | omega) _ | with_reducible refine Below.setCell ?_ (by first | (simp; done) | (simp; omega) | omega) _)) hc16
            replace O_0 := cell_later hst16 O_0
            replace O_1 := cell_later hst16 O_1
            replace O_2 := cell_later hst16 O_2
            replace O_f0 := frozen_later hst16 O_l O_f0
            replace O_f1 := frozen_later hst16 O_l O_f1
            replace O_f2 := frozen_later hst16 O_l O_f2
            replace O_l := Nat.lt_of_lt_of_le O_l hst16.size
            replace T_0 := cell_later hst16 T_0
            replace T_1 := cell_later hst16 T_1
            replace T_l := Nat.lt_of_lt_of_le T_l hst16.size
            replace hO14 := hO14.later hst16
            replace R14 := R14.later hst16
            replace hrs14 := hrs14.later hst16
            replace hq14 := hq14.later hst16
            replace o5' := o5'.later hst16
            clear hst16
            obtain ⟨_, _, e13, k13⟩ := f13
            cases e13
            have k13a := k13.addr
            go_wp2_with fail
            go_roundw
            case rel =>
              refine ⟨W1, insL rs1 t, r, o1 ++ [t], a13, n + 1, c13, (some ⟨b, o + 2, none⟩), (m - 1), (d - 1), a5, k + 1, c5, rfl, ⟨hb16.setCell (Nat.le_refl _) _, hO14.set 1 _, R14.setFar (by simp) _, ?_, ?_, hq14.setFarG q_ne _, qlt', o5'.setCell (by simp) _, ?_, by have := H_hm1.out; omega, by have := H_hm1.out; omega, by have := H_hm1.out; omega, fun B hB _ ad e => by have := k13a ad e; omega, qsrc'⟩, HN⟩
              · exact (k13.setCell (by simp; omega) _).mono (by omega)
              · exact fun ad e => by have := k13a ad e; omega
              · exact fun ad bd e1 e2 => by have := k13a ad e1; have := olt15 bd e2; omega
            case measure => simp [lenS]; omega

end Go.Proofs.Ytnkbbfeaodppgaa
