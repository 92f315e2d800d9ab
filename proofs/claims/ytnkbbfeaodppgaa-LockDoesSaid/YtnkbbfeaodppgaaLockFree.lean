/- The package lock: Free, Leave. -/
import Derived.Test.YtnkbbfeaodppgaaLockAsk
namespace Go.Proofs.Ytnkbbfeaodppgaa
set_option linter.unusedSimpArgs false
set_option linter.unusedVariables false
set_option linter.unnecessarySimpa false
open Go.RowKit

theorem Wq.del {rs : List Int} {q : Waits} (h : Wq rs q) (t : Int) : Wq (delL rs t) q :=
  ⟨delL_inc h.inc, fun w hw => ⟨(h.far w hw).1, fun hm => (h.far w hw).2 (delL_mem.1 hm).1⟩, h.nd⟩
theorem Wq.sub {rs : List Int} {q q' : Waits} (h : Wq rs q) (hs : q'.Sublist q) : Wq rs q' :=
  ⟨h.inc, fun w hw => h.far w (hs.subset hw), h.nd.sublist (hs.map _)⟩
theorem below_alloc3 (w : World) (o p r : Obj) : Below w.heap.size w (((w.alloc o).alloc p).alloc r) := (below_alloc2 w o p).alloc (by simp; omega) _
/-- A lock and a list that are returned. -/
structure FreeOut (N : Nat) (w : World) (z : LkP × List Int × Int) (a1 : Option Addr) (n1 : Nat) (a2 : Option Addr) (n2 : Nat) (a3 : Option Addr) (n3 : Nat) : Prop where
  l : LockOut N w z.1 a1 n1 a2 n2
  olen : n3 = z.2.1.length
  out : CellsAt w a3 (z.2.1.map (Value.int .i64))
  f3 : ∀ B, B < N → Far a3 B
theorem FreeOut.zero (N : Nat) (w : World) (e : Int) : FreeOut N w (lk0, [], e) none 0 none 0 none 0 := ⟨.zero N w, rfl, .inl rfl, fun _ _ _ e => (by cases e)⟩

/- $1 the function, $2 the result's block. -/
/- Behind the second call: the twin, named; $1 the result's block, $2 the region behind it. -/
/- Behind grant: $1 the function, $2 the result's block, $3 the world ahead of the last store into M, $4 that store's place, $5 its value, $6 the cells. -/

set_option maxRecDepth 100000 in
set_option maxHeartbeats 4000000 in
theorem Leave_any (W t : Int) (rs : List Int) (q : Waits) (ra qa : Option Addr) (rn rc qn qc : Nat) (w : World) (h : LockIn w rs q ra qa rn qn) (hmx : rn + qn ≤ 999999) :
    Calls Try.prog 17 #[.agg #[.int .i64 W, .slice ra rn rc, .slice qa qn qc], .int .i64 t] w fun e w' =>
      ∃ a1 n1 c1 a2 n2 c2 a3 n3 c3, e = .returned (.tuple #[.agg #[.int .i64 (leaveZ W rs q t).1.1, .slice a1 n1 c1, .slice a2 n2 c2], .slice a3 n3 c3, .int .i64 (leaveZ W rs q t).2.2]) ∧ FreeOut w.heap.size w' (leaveZ W rs q t) a1 n1 a2 n2 a3 n3 ∧ Below w.heap.size w w' := by
  have hrm := h.rmax
  have hqm := h.qmax
  have hC := fun W' h => checkT_any W t rs q ra qa rn rc qn qc W' h
  have hH := fun W' h => waits_any W t rs q ra qa rn rc qn qc W' h
  obtain ⟨z, hz⟩ : ∃ z, bothZ W rs q t = z := ⟨_, rfl⟩
  obtain ⟨y, hy⟩ : ∃ y, idxW q t = y := ⟨_, rfl⟩
  obtain ⟨A, hA⟩ : ∃ A, leaveZ W rs q t = A := ⟨_, rfl⟩
  rw [hz] at hC
  rw [hy] at hH
  rw [hA]
  by_cases h0 : z = 0
  · by_cases h1 : y < 0
    · have he : A = (lk0, [], 36) := by
        rw [← hA]; unfold leaveZ; rw [if_neg (by rw [hz]; simpa using h0), if_pos (by rw [hy]; exact h1)]
      rw [h0] at hC
      clear h0
      have H_h := Box.mk h
      have H_hz := Box.mk hz
      have H_hC := Box.mk hC
      have H_hH := Box.mk hH
      have H_hy := Box.mk hy
      have H_hA := Box.mk hA
      clear h hz hC hH hy hA
      subst he
      go_enter Try.func17, Try.ntmps17
      have hb0 := Below.refl w.heap.size w
      go_wp2_with fail
      with_reducible refine (H_hC.out _ (H_h.out.later (below_alloc2 _ _ _))).mono ?_
      rintro e w1 ⟨rfl, hc1⟩
      have hb1 : Below w.heap.size w w1 := bchain (by repeat' (first | with_reducible exact hb0 | with_reducible refine Below.drew ?_ | with_reducible refine below_drewN ?_ _ | with_reducible refine Below.alloc ?_ (by have := hb0.size; first | (simp; done) | (simp; omega) | omega) _ | with_reducible refine Below.setCell ?_ (by first | (simp; done) | (simp; omega) | omega) _)) hc1
      have O_0 : w1.cell? ⟨w.heap.size, 0, none⟩ = some (.int .i64 W) := (hc1.cell (p := ⟨w.heap.size, 0, none⟩) (by first | (simp; done) | (simp; omega))).trans (by first | (simp; done) | go_simp)
      have O_1 : w1.cell? ⟨w.heap.size, 1, none⟩ = some (.slice ra rn rc) := (hc1.cell (p := ⟨w.heap.size, 1, none⟩) (by first | (simp; done) | (simp; omega))).trans (by first | (simp; done) | go_simp)
      have O_2 : w1.cell? ⟨w.heap.size, 2, none⟩ = some (.slice qa qn qc) := (hc1.cell (p := ⟨w.heap.size, 2, none⟩) (by first | (simp; done) | (simp; omega))).trans (by first | (simp; done) | go_simp)
      have O_l : w.heap.size < w1.heap.size := Nat.lt_of_lt_of_le (by first | (simp; done) | (simp; omega)) hc1.size
      have R_0 : w1.cell? ⟨w.heap.size + 1, 0, none⟩ = some (.int .i64 0) := (hc1.cell (p := ⟨w.heap.size + 1, 0, none⟩) (by first | (simp; done) | (simp; omega))).trans (by first | (simp; done) | go_simp)
      have R_1 : w1.cell? ⟨w.heap.size + 1, 1, none⟩ = some (.slice none 0 0) := (hc1.cell (p := ⟨w.heap.size + 1, 1, none⟩) (by first | (simp; done) | (simp; omega))).trans (by first | (simp; done) | go_simp)
      have R_2 : w1.cell? ⟨w.heap.size + 1, 2, none⟩ = some (.slice none 0 0) := (hc1.cell (p := ⟨w.heap.size + 1, 2, none⟩) (by first | (simp; done) | (simp; omega))).trans (by first | (simp; done) | go_simp)
      have R_f0 : w1.frozen? ⟨w.heap.size + 1, 0, none⟩ = false := (hc1.frozen (p := ⟨w.heap.size + 1, 0, none⟩) (by first | (simp; done) | (simp; omega))).trans (by first | (simp; done) | go_simp)
      have R_f1 : w1.frozen? ⟨w.heap.size + 1, 1, none⟩ = false := (hc1.frozen (p := ⟨w.heap.size + 1, 1, none⟩) (by first | (simp; done) | (simp; omega))).trans (by first | (simp; done) | go_simp)
      have R_f2 : w1.frozen? ⟨w.heap.size + 1, 2, none⟩ = false := (hc1.frozen (p := ⟨w.heap.size + 1, 2, none⟩) (by first | (simp; done) | (simp; omega))).trans (by first | (simp; done) | go_simp)
      have R_l : w.heap.size + 1 < w1.heap.size := Nat.lt_of_lt_of_le (by first | (simp; done) | (simp; omega)) hc1.size
      clear hc1 hb0
      go_wp2_with fail
      with_reducible refine (H_hH.out _ (H_h.out.later hb1)).mono ?_
      rintro e w2 ⟨rfl, hc2⟩
      have hb2 : Below w.heap.size w w2 := bchain (by repeat' (first | with_reducible exact hb1 | with_reducible refine Below.drew ?_ | with_reducible refine below_drewN ?_ _ | with_reducible refine Below.alloc ?_ (by have := hb1.size; first | (simp; done) | (simp; omega) | omega) _ | with_reducible refine Below.setCell ?_ (by first | (simp; done) | (simp; omega) | omega) _)) hc2
      have hst2 : Below w1.heap.size w1 w2 := bchain (by repeat' (first | with_reducible exact Below.refl _ _ | with_reducible refine Below.drew ?_ | with_reducible refine below_drewN ?_ _ | with_reducible refine Below.alloc ?_ (by first | (simp; done) | (simp; omega) | omega) _ | with_reducible refine Below.setCell ?_ (by first | (simp; done) | (simp; omega) | omega) _)) hc2
      replace O_0 := cell_later hst2 O_0
      replace O_1 := cell_later hst2 O_1
      replace O_2 := cell_later hst2 O_2
      replace O_l := Nat.lt_of_lt_of_le O_l hst2.size
      replace R_0 := cell_later hst2 R_0
      replace R_1 := cell_later hst2 R_1
      replace R_2 := cell_later hst2 R_2
      replace R_f0 := frozen_later hst2 R_l R_f0
      replace R_f1 := frozen_later hst2 R_l R_f1
      replace R_f2 := frozen_later hst2 R_l R_f2
      replace R_l := Nat.lt_of_lt_of_le R_l hst2.size
      clear hst2
      clear hc2 hb1
      go_wp2_with fail
      exact bodyPost_ret (v := .tuple #[.agg #[.int .i64 0, .slice none 0 0, .slice none 0 0], .slice none 0 0, .int .i64 36]) (by simp [results, Try.results17, go_sem, *]) rfl ⟨none, 0, 0, none, 0, 0, none, 0, 0, rfl, .zero _ _ _, (by repeat' (first | with_reducible exact hb2 | with_reducible refine Below.drew ?_ | with_reducible refine below_drewN ?_ _ | with_reducible refine Below.alloc ?_ (by have := hb2.size; first | (simp; done) | (simp; omega) | omega) _ | with_reducible refine Below.setCell ?_ (by first | (simp; done) | (simp; omega) | omega) _))⟩
    · obtain ⟨i, rfl⟩ : ∃ i : Nat, y = i := ⟨y.toNat, by omega⟩
      have hLV := both_LV (hz.trans h0)
      have hiq : i < q.length := by
        unfold idxW idxN at hy
        rw [List.length_map] at hy
        split at hy <;> omega
      have hwq := hLV.1.wq.sub (List.eraseIdx_sublist q i)
      have he : A = (lkOf (grantP W rs (q.eraseIdx i)), (grantP W rs (q.eraseIdx i)).2.2.2, 0) := by
        rw [← hA]; unfold leaveZ; rw [if_neg (by rw [hz]; simpa using h0), if_neg (by rw [hy]; exact h1), hy, Int.toNat_natCast]
      obtain ⟨res, hres⟩ : ∃ res, grantP W rs (q.eraseIdx i) = res := ⟨_, rfl⟩
      rw [hres] at he
      rw [h0] at hC
      have hin : i < qn := by have := h.qlen; omega
      have hql := h.qlen
      have hqe : qn - 1 = (q.eraseIdx i).length := by rw [List.length_eraseIdx_of_lt hiq, hql]
      have hi0 : (0 : Int) ≤ (i : Int) := by omega
      clear hLV h0 h1 hiq
      have H_h := Box.mk h
      have H_he := Box.mk he
      have H_hz := Box.mk hz
      have H_hC := Box.mk hC
      have H_hH := Box.mk hH
      have H_hy := Box.mk hy
      have H_hA := Box.mk hA
      have H_hwq := Box.mk hwq
      have H_hres := Box.mk hres
      have H_hql := Box.mk hql
      have H_hqe := Box.mk hqe
      clear h he hz hC hH hy hA hwq hres hql hqe
      go_enter Try.func17, Try.ntmps17
      have hb0 := Below.refl w.heap.size w
      go_wp2_with fail
      with_reducible refine (H_hC.out _ (H_h.out.later (below_alloc2 _ _ _))).mono ?_
      rintro e w1 ⟨rfl, hc1⟩
      have R1 : Blk w1 (w.heap.size + 1) 25 [.int .i64 0, .slice none 0 0, .slice none 0 0] := Blk.later (Blk.newA _ _ _ _ [.int .i64 0, .slice none 0 0, .slice none 0 0] (by simp) (by rfl)) hc1
      have hb1 : Below w.heap.size w w1 := bchain (by repeat' (first | with_reducible exact hb0 | with_reducible refine Below.drew ?_ | with_reducible refine below_drewN ?_ _ | with_reducible refine Below.alloc ?_ (by have := hb0.size; first | (simp; done) | (simp; omega) | omega) _ | with_reducible refine Below.setCell ?_ (by first | (simp; done) | (simp; omega) | omega) _)) hc1
      have O_0 : w1.cell? ⟨w.heap.size, 0, none⟩ = some (.int .i64 W) := (hc1.cell (p := ⟨w.heap.size, 0, none⟩) (by first | (simp; done) | (simp; omega))).trans (by first | (simp; done) | go_simp)
      have O_1 : w1.cell? ⟨w.heap.size, 1, none⟩ = some (.slice ra rn rc) := (hc1.cell (p := ⟨w.heap.size, 1, none⟩) (by first | (simp; done) | (simp; omega))).trans (by first | (simp; done) | go_simp)
      have O_2 : w1.cell? ⟨w.heap.size, 2, none⟩ = some (.slice qa qn qc) := (hc1.cell (p := ⟨w.heap.size, 2, none⟩) (by first | (simp; done) | (simp; omega))).trans (by first | (simp; done) | go_simp)
      have O_l : w.heap.size < w1.heap.size := Nat.lt_of_lt_of_le (by first | (simp; done) | (simp; omega)) hc1.size
      have R_0 : w1.cell? ⟨w.heap.size + 1, 0, none⟩ = some (.int .i64 0) := (hc1.cell (p := ⟨w.heap.size + 1, 0, none⟩) (by first | (simp; done) | (simp; omega))).trans (by first | (simp; done) | go_simp)
      have R_1 : w1.cell? ⟨w.heap.size + 1, 1, none⟩ = some (.slice none 0 0) := (hc1.cell (p := ⟨w.heap.size + 1, 1, none⟩) (by first | (simp; done) | (simp; omega))).trans (by first | (simp; done) | go_simp)
      have R_2 : w1.cell? ⟨w.heap.size + 1, 2, none⟩ = some (.slice none 0 0) := (hc1.cell (p := ⟨w.heap.size + 1, 2, none⟩) (by first | (simp; done) | (simp; omega))).trans (by first | (simp; done) | go_simp)
      have R_f0 : w1.frozen? ⟨w.heap.size + 1, 0, none⟩ = false := (hc1.frozen (p := ⟨w.heap.size + 1, 0, none⟩) (by first | (simp; done) | (simp; omega))).trans (by first | (simp; done) | go_simp)
      have R_f1 : w1.frozen? ⟨w.heap.size + 1, 1, none⟩ = false := (hc1.frozen (p := ⟨w.heap.size + 1, 1, none⟩) (by first | (simp; done) | (simp; omega))).trans (by first | (simp; done) | go_simp)
      have R_f2 : w1.frozen? ⟨w.heap.size + 1, 2, none⟩ = false := (hc1.frozen (p := ⟨w.heap.size + 1, 2, none⟩) (by first | (simp; done) | (simp; omega))).trans (by first | (simp; done) | go_simp)
      have R_l : w.heap.size + 1 < w1.heap.size := Nat.lt_of_lt_of_le (by first | (simp; done) | (simp; omega)) hc1.size
      clear hc1
      go_wp2_with fail
      with_reducible refine (H_hH.out _ (H_h.out.later hb1)).mono ?_
      rintro e w2 ⟨rfl, hc2⟩
      have hb2 : Below w.heap.size w w2 := bchain (by repeat' (first | with_reducible exact hb1 | with_reducible refine Below.drew ?_ | with_reducible refine below_drewN ?_ _ | with_reducible refine Below.alloc ?_ (by have := hb1.size; first | (simp; done) | (simp; omega) | omega) _ | with_reducible refine Below.setCell ?_ (by first | (simp; done) | (simp; omega) | omega) _)) hc2
      have hst2 : Below w1.heap.size w1 w2 := bchain (by repeat' (first | with_reducible exact Below.refl _ _ | with_reducible refine Below.drew ?_ | with_reducible refine below_drewN ?_ _ | with_reducible refine Below.alloc ?_ (by first | (simp; done) | (simp; omega) | omega) _ | with_reducible refine Below.setCell ?_ (by first | (simp; done) | (simp; omega) | omega) _)) hc2
      replace O_0 := cell_later hst2 O_0
      replace O_1 := cell_later hst2 O_1
      replace O_2 := cell_later hst2 O_2
      replace O_l := Nat.lt_of_lt_of_le O_l hst2.size
      replace R_0 := cell_later hst2 R_0
      replace R_1 := cell_later hst2 R_1
      replace R_2 := cell_later hst2 R_2
      replace R_f0 := frozen_later hst2 R_l R_f0
      replace R_f1 := frozen_later hst2 R_l R_f1
      replace R_f2 := frozen_later hst2 R_l R_f2
      replace R_l := Nat.lt_of_lt_of_le R_l hst2.size
      replace R1 := R1.later hst2
      clear hst2
      clear hc2 hb1
      have hR2 := R1.lt
      go_wp2_with fail
      with_reducible refine (twin_any W rs q ra qa rn rc qn qc _ (H_h.out.later hb2)).mono ?_
      rintro e w3 ⟨a1, c1, a2, c2, rfl, o3, hc3⟩
      have hz3 := hc3.size
      have hb3 : Below w.heap.size w w3 := bchain (by repeat' (first | with_reducible exact hb2 | with_reducible refine Below.drew ?_ | with_reducible refine below_drewN ?_ _ | with_reducible refine Below.alloc ?_ (by have := hb2.size; first | (simp; done) | (simp; omega) | omega) _ | with_reducible refine Below.setCell ?_ (by first | (simp; done) | (simp; omega) | omega) _)) hc3
      have hst3 : Below w2.heap.size w2 w3 := bchain (by repeat' (first | with_reducible exact Below.refl _ _ | with_reducible refine Below.drew ?_ | with_reducible refine below_drewN ?_ _ | with_reducible refine Below.alloc ?_ (by first | (simp; done) | (simp; omega) | omega) _ | with_reducible refine Below.setCell ?_ (by first | (simp; done) | (simp; omega) | omega) _)) hc3
      replace O_0 := cell_later hst3 O_0
      replace O_1 := cell_later hst3 O_1
      replace O_2 := cell_later hst3 O_2
      replace O_l := Nat.lt_of_lt_of_le O_l hst3.size
      replace R_0 := cell_later hst3 R_0
      replace R_1 := cell_later hst3 R_1
      replace R_2 := cell_later hst3 R_2
      replace R_f0 := frozen_later hst3 R_l R_f0
      replace R_f1 := frozen_later hst3 R_l R_f1
      replace R_f2 := frozen_later hst3 R_l R_f2
      replace R_l := Nat.lt_of_lt_of_le R_l hst3.size
      replace R1 := R1.later hst3
      clear hst3
      clear hc3
      go_upto_region 8 with (fail)
      refine wp_facts (fun Wx => TwMid w Wx w2.heap.size w3.heap.size (w.heap.size + 1) W rs q a1 rn c1 a2 qn c2 ∧ True) ⟨⟨(by repeat' (first | with_reducible exact hb3 | with_reducible refine Below.drew ?_ | with_reducible refine below_drewN ?_ _ | with_reducible refine Below.alloc ?_ (by have := hb3.size; first | (simp; done) | (simp; omega) | omega) _ | with_reducible refine Below.setCell ?_ (by first | (simp; done) | (simp; omega) | omega) _)), R1.alloc _, Blk.new _ _ _ _ rfl, o3.rs.alloc _, o3.qs.alloc _, fun ad e => (o3.rs.addr ad e).2, fun ad e => (o3.qs.addr ad e).2, o3.rs.typed o3.qs (by decide), hR2, hz3⟩, trivial⟩ ?_
      rintro w4 ⟨hT, hX⟩
      clear hR2 hz3 R1 o3 O_0 O_1 O_2 O_l R_0 R_1 R_2 R_f0 R_f1 R_f2 R_l
      clear hX
      generalize w2.heap.size = base at *
      generalize w3.heap.size = mb at *
      obtain ⟨hb4, R4, M4, rs4, q4, lt1, lt2, hne4, hrb, hbm⟩ := hT
      obtain ⟨M_0, M_1, M_2, M_f0, M_f1, M_f2, M_l⟩ := blk3 M4
      have a1lo := rs4.addr
      have a2lo := q4.addr
      have hncq : qn ≤ c2 := by obtain ⟨_, _, e0, h0, _⟩ := q4.cells; cases e0; exact h0
      have w4m := M4.lt
      have w4r := R4.lt
      have hwm : w.heap.size ≤ mb := by omega
      have m1 : Far a1 mb := fun ad e => Nat.ne_of_lt (lt1 ad e)
      have m2 : Far a2 mb := fun ad e => Nat.ne_of_lt (lt2 ad e)
      have r1 : Far a1 (w.heap.size + 1) := fun ad e => by have := (a1lo ad e).1; omega
      have r2 : Far a2 (w.heap.size + 1) := fun ad e => by have := (a2lo ad e).1; omega
      have hRM : ¬ ((w.heap.size + 1) = mb) := by omega
      have hMR : ¬ (mb = (w.heap.size + 1)) := by omega
      go_wp2_with fail
      refine (delW_any q i a2 qn c2 base _ q4 H_hql.out hin (by omega)).mono ?_
      rintro e w5 ⟨rfl, q5, hB5, hK5⟩
      have R5 := R4.keptX hK5 r2
      have M5 := M4.keptX hK5 m2
      have rs5 := rs4.keptX hK5 hne4
      have hb5 : Below w.heap.size w w5 := hb4.trans (hB5.mono (by omega))
      have z5 := hK5.size
      clear R4 M4 rs4 q4 hB5 hK5 M_0 M_1 M_2 M_f0 M_f1 M_f2 M_l
      obtain ⟨M_0, M_1, M_2, M_f0, M_f1, M_f2, M_l⟩ := blk3 M5
      go_wp2_with fail
      refine (grant_any W rs (q.eraseIdx i) a1 a2 rn c1 (qn - 1) c2 base _ (by simp; omega) (rs5.setFar (a := ⟨mb, 2, none⟩) (Ne.symm (own_not m1)) _) (q5.setFarG (p := ⟨mb, 2, none⟩) m2 _) H_hqe.out (fun ad e => by have := (a2lo ad e).2; simp; omega) (by omega) (by omega) H_hwq.out).mono ?_
      rw [H_hres.out]
      rintro e w6 ⟨b1, n1, d1, b2, n2, d2, b3, n3, d3, rfl, hG, hcap, hc6⟩
      have R6 := Blk.later (R5.setFar (p := ⟨mb, 2, none⟩) (by simp; omega) (.slice a2 (qn - 1) c2)) hc6
      have M6 := Blk.later (M5.set 2 (.slice a2 (qn - 1) c2)) hc6
      have hb6 : Below w.heap.size w w6 := bchain (hb5.setCell hwm _) hc6
      have w6m := M5.lt
      have w6r := R5.lt
      clear R5 M5 M_0 M_1 M_2 M_f0 M_f1 M_f2 M_l hc6
      obtain ⟨M_0, M_1, M_2, M_f0, M_f1, M_f2, M_l⟩ := blk3 M6
      obtain ⟨R_0, R_1, R_2, R_f0, R_f1, R_f2, R_l⟩ := blk3 R6
      have hl := hG.l
      have holen := hG.olen
      have H_holen := Box.mk holen
      clear holen
      have g1 := hG.fr mb (by simp; omega) m1
      have g2 := hG.fr _ (by simp; omega) r1
      have g3 := hG.fq mb m2
      have g4 := hG.fq _ r2
      have g5 := hG.fo mb (by simp; omega)
      have g6 := hG.fo (w.heap.size + 1) (by simp; omega)
      go_wp2_with fail
      refine bodyPost_ret (v := .tuple #[.agg #[.int .i64 res.1, .slice b1 n1 d1, .slice b2 n2 d2], .slice b3 n3 d3, .int .i64 0]) (by simp [results, Try.results17, go_sem, *]) rfl ⟨b1, n1, d1, b2, n2, d2, b3, n3, d3, by rw [H_he.out]; rfl, ?_, ?_⟩
      · rw [H_he.out]
        exact ⟨⟨⟨hl.rlen, hl.qlen, (hl.rs.far3 g1).far3 g2, (hl.qs.far3 g3).far3 g4, hl.rmax, hl.qmax⟩, fun B hB => hG.fr B (by simp; omega) (fun ad e => by have := (a1lo ad e).1; omega), fun B hB => hG.fq B (fun ad e => by have := (a2lo ad e).1; omega)⟩, H_holen.out, (hG.out.far3 g5).far3 g6, fun B hB => hG.fo B (by simp; omega)⟩
      · repeat' (first | with_reducible exact hb6 | with_reducible refine Below.setCell ?_ (by first | (simp; done) | (simp; omega) | omega) _)
  · have he : A = (lk0, [], z) := by
      rw [← hA]; unfold leaveZ; rw [if_pos (by rw [hz]; exact h0), hz]
    have hne : (z != 0) = true := bne_iff_ne.2 h0
    clear h0
    have H_h := Box.mk h
    have H_hz := Box.mk hz
    have H_hC := Box.mk hC
    have H_hH := Box.mk hH
    have H_hy := Box.mk hy
    have H_hA := Box.mk hA
    clear h hz hC hH hy hA
    subst he
    go_enter Try.func17, Try.ntmps17
    have hb0 := Below.refl w.heap.size w
    go_wp2_with fail
    with_reducible refine (H_hC.out _ (H_h.out.later (below_alloc2 _ _ _))).mono ?_
    rintro e w1 ⟨rfl, hc1⟩
    have hb1 : Below w.heap.size w w1 := bchain (by repeat' (first | with_reducible exact hb0 | with_reducible refine Below.drew ?_ | with_reducible refine below_drewN ?_ _ | with_reducible refine Below.alloc ?_ (by have := hb0.size; first | (simp; done) | (simp; omega) | omega) _ | with_reducible refine Below.setCell ?_ (by first | (simp; done) | (simp; omega) | omega) _)) hc1
    have O_0 : w1.cell? ⟨w.heap.size, 0, none⟩ = some (.int .i64 W) := (hc1.cell (p := ⟨w.heap.size, 0, none⟩) (by first | (simp; done) | (simp; omega))).trans (by first | (simp; done) | go_simp)
    have O_1 : w1.cell? ⟨w.heap.size, 1, none⟩ = some (.slice ra rn rc) := (hc1.cell (p := ⟨w.heap.size, 1, none⟩) (by first | (simp; done) | (simp; omega))).trans (by first | (simp; done) | go_simp)
    have O_2 : w1.cell? ⟨w.heap.size, 2, none⟩ = some (.slice qa qn qc) := (hc1.cell (p := ⟨w.heap.size, 2, none⟩) (by first | (simp; done) | (simp; omega))).trans (by first | (simp; done) | go_simp)
    have O_l : w.heap.size < w1.heap.size := Nat.lt_of_lt_of_le (by first | (simp; done) | (simp; omega)) hc1.size
    have R_0 : w1.cell? ⟨w.heap.size + 1, 0, none⟩ = some (.int .i64 0) := (hc1.cell (p := ⟨w.heap.size + 1, 0, none⟩) (by first | (simp; done) | (simp; omega))).trans (by first | (simp; done) | go_simp)
    have R_1 : w1.cell? ⟨w.heap.size + 1, 1, none⟩ = some (.slice none 0 0) := (hc1.cell (p := ⟨w.heap.size + 1, 1, none⟩) (by first | (simp; done) | (simp; omega))).trans (by first | (simp; done) | go_simp)
    have R_2 : w1.cell? ⟨w.heap.size + 1, 2, none⟩ = some (.slice none 0 0) := (hc1.cell (p := ⟨w.heap.size + 1, 2, none⟩) (by first | (simp; done) | (simp; omega))).trans (by first | (simp; done) | go_simp)
    have R_f0 : w1.frozen? ⟨w.heap.size + 1, 0, none⟩ = false := (hc1.frozen (p := ⟨w.heap.size + 1, 0, none⟩) (by first | (simp; done) | (simp; omega))).trans (by first | (simp; done) | go_simp)
    have R_f1 : w1.frozen? ⟨w.heap.size + 1, 1, none⟩ = false := (hc1.frozen (p := ⟨w.heap.size + 1, 1, none⟩) (by first | (simp; done) | (simp; omega))).trans (by first | (simp; done) | go_simp)
    have R_f2 : w1.frozen? ⟨w.heap.size + 1, 2, none⟩ = false := (hc1.frozen (p := ⟨w.heap.size + 1, 2, none⟩) (by first | (simp; done) | (simp; omega))).trans (by first | (simp; done) | go_simp)
    have R_l : w.heap.size + 1 < w1.heap.size := Nat.lt_of_lt_of_le (by first | (simp; done) | (simp; omega)) hc1.size
    clear hc1 hb0
    go_wp2_with fail
    exact bodyPost_ret (v := .tuple #[.agg #[.int .i64 0, .slice none 0 0, .slice none 0 0], .slice none 0 0, .int .i64 z]) (by simp [results, Try.results17, go_sem, *]) rfl ⟨none, 0, 0, none, 0, 0, none, 0, 0, rfl, .zero _ _ _, (by repeat' (first | with_reducible exact hb1 | with_reducible refine Below.drew ?_ | with_reducible refine below_drewN ?_ _ | with_reducible refine Below.alloc ?_ (by have := hb1.size; first | (simp; done) | (simp; omega) | omega) _ | with_reducible refine Below.setCell ?_ (by first | (simp; done) | (simp; omega) | omega) _))⟩

set_option maxRecDepth 100000 in
set_option maxHeartbeats 4000000 in
theorem Free_any (W t : Int) (rs : List Int) (q : Waits) (ra qa : Option Addr) (rn rc qn qc : Nat) (w : World) (h : LockIn w rs q ra qa rn qn) (hmx : rn + qn ≤ 999999) :
    Calls Try.prog 12 #[.agg #[.int .i64 W, .slice ra rn rc, .slice qa qn qc], .int .i64 t] w fun e w' =>
      ∃ a1 n1 c1 a2 n2 c2 a3 n3 c3, e = .returned (.tuple #[.agg #[.int .i64 (freeZ W rs q t).1.1, .slice a1 n1 c1, .slice a2 n2 c2], .slice a3 n3 c3, .int .i64 (freeZ W rs q t).2.2]) ∧ FreeOut w.heap.size w' (freeZ W rs q t) a1 n1 a2 n2 a3 n3 ∧ Below w.heap.size w w' := by
  have hrm := h.rmax
  have hqm := h.qmax
  have hC := fun W' h => checkT_any W t rs q ra qa rn rc qn qc W' h
  have hH := fun W' h => holds_any W t rs q ra qa rn rc qn qc W' h
  obtain ⟨z, hz⟩ : ∃ z, bothZ W rs q t = z := ⟨_, rfl⟩
  obtain ⟨y, hy⟩ : ∃ y, hasZ W rs q t = y := ⟨_, rfl⟩
  obtain ⟨A, hA⟩ : ∃ A, freeZ W rs q t = A := ⟨_, rfl⟩
  rw [hz] at hC
  rw [hy] at hH
  rw [hA]
  by_cases h0 : z = 0
  · by_cases h1 : y < 1
    · have he : A = (lk0, [], 36) := by
        rw [← hA]; unfold freeZ; rw [if_neg (by rw [hz]; simpa using h0), if_pos (by rw [hy]; exact h1)]
      rw [h0] at hC
      clear h0
      have H_h := Box.mk h
      have H_hz := Box.mk hz
      have H_hC := Box.mk hC
      have H_hH := Box.mk hH
      have H_hy := Box.mk hy
      have H_hA := Box.mk hA
      clear h hz hC hH hy hA
      subst he
      go_enter Try.func12, Try.ntmps12
      have hb0 := Below.refl w.heap.size w
      go_wp2_with fail
      with_reducible refine (H_hC.out _ (H_h.out.later (below_alloc3 _ _ _ _))).mono ?_
      rintro e w1 ⟨rfl, hc1⟩
      have hb1 : Below w.heap.size w w1 := bchain (by repeat' (first | with_reducible exact hb0 | with_reducible refine Below.drew ?_ | with_reducible refine below_drewN ?_ _ | with_reducible refine Below.alloc ?_ (by have := hb0.size; first | (simp; done) | (simp; omega) | omega) _ | with_reducible refine Below.setCell ?_ (by first | (simp; done) | (simp; omega) | omega) _)) hc1
      have O_0 : w1.cell? ⟨w.heap.size, 0, none⟩ = some (.int .i64 W) := (hc1.cell (p := ⟨w.heap.size, 0, none⟩) (by first | (simp; done) | (simp; omega))).trans (by first | (simp; done) | go_simp)
      have O_1 : w1.cell? ⟨w.heap.size, 1, none⟩ = some (.slice ra rn rc) := (hc1.cell (p := ⟨w.heap.size, 1, none⟩) (by first | (simp; done) | (simp; omega))).trans (by first | (simp; done) | go_simp)
      have O_2 : w1.cell? ⟨w.heap.size, 2, none⟩ = some (.slice qa qn qc) := (hc1.cell (p := ⟨w.heap.size, 2, none⟩) (by first | (simp; done) | (simp; omega))).trans (by first | (simp; done) | go_simp)
      have O_l : w.heap.size < w1.heap.size := Nat.lt_of_lt_of_le (by first | (simp; done) | (simp; omega)) hc1.size
      have T_0 : w1.cell? ⟨w.heap.size + 1, 0, none⟩ = some (.int .i64 t) := (hc1.cell (p := ⟨w.heap.size + 1, 0, none⟩) (by first | (simp; done) | (simp; omega))).trans (by first | (simp; done) | go_simp)
      have T_l : w.heap.size + 1 < w1.heap.size := Nat.lt_of_lt_of_le (by first | (simp; done) | (simp; omega)) hc1.size
      have R_0 : w1.cell? ⟨w.heap.size + 2, 0, none⟩ = some (.int .i64 0) := (hc1.cell (p := ⟨w.heap.size + 2, 0, none⟩) (by first | (simp; done) | (simp; omega))).trans (by first | (simp; done) | go_simp)
      have R_1 : w1.cell? ⟨w.heap.size + 2, 1, none⟩ = some (.slice none 0 0) := (hc1.cell (p := ⟨w.heap.size + 2, 1, none⟩) (by first | (simp; done) | (simp; omega))).trans (by first | (simp; done) | go_simp)
      have R_2 : w1.cell? ⟨w.heap.size + 2, 2, none⟩ = some (.slice none 0 0) := (hc1.cell (p := ⟨w.heap.size + 2, 2, none⟩) (by first | (simp; done) | (simp; omega))).trans (by first | (simp; done) | go_simp)
      have R_f0 : w1.frozen? ⟨w.heap.size + 2, 0, none⟩ = false := (hc1.frozen (p := ⟨w.heap.size + 2, 0, none⟩) (by first | (simp; done) | (simp; omega))).trans (by first | (simp; done) | go_simp)
      have R_f1 : w1.frozen? ⟨w.heap.size + 2, 1, none⟩ = false := (hc1.frozen (p := ⟨w.heap.size + 2, 1, none⟩) (by first | (simp; done) | (simp; omega))).trans (by first | (simp; done) | go_simp)
      have R_f2 : w1.frozen? ⟨w.heap.size + 2, 2, none⟩ = false := (hc1.frozen (p := ⟨w.heap.size + 2, 2, none⟩) (by first | (simp; done) | (simp; omega))).trans (by first | (simp; done) | go_simp)
      have R_l : w.heap.size + 2 < w1.heap.size := Nat.lt_of_lt_of_le (by first | (simp; done) | (simp; omega)) hc1.size
      clear hc1 hb0
      go_wp2_with fail
      with_reducible refine (H_hH.out _ (H_h.out.later hb1)).mono ?_
      rintro e w2 ⟨rfl, hc2⟩
      have hb2 : Below w.heap.size w w2 := bchain (by repeat' (first | with_reducible exact hb1 | with_reducible refine Below.drew ?_ | with_reducible refine below_drewN ?_ _ | with_reducible refine Below.alloc ?_ (by have := hb1.size; first | (simp; done) | (simp; omega) | omega) _ | with_reducible refine Below.setCell ?_ (by first | (simp; done) | (simp; omega) | omega) _)) hc2
      have hst2 : Below w1.heap.size w1 w2 := bchain (by repeat' (first | with_reducible exact Below.refl _ _ | with_reducible refine Below.drew ?_ | with_reducible refine below_drewN ?_ _ | with_reducible refine Below.alloc ?_ (by first | (simp; done) | (simp; omega) | omega) _ | with_reducible refine Below.setCell ?_ (by first | (simp; done) | (simp; omega) | omega) _)) hc2
      replace O_0 := cell_later hst2 O_0
      replace O_1 := cell_later hst2 O_1
      replace O_2 := cell_later hst2 O_2
      replace O_l := Nat.lt_of_lt_of_le O_l hst2.size
      replace T_0 := cell_later hst2 T_0
      replace T_l := Nat.lt_of_lt_of_le T_l hst2.size
      replace R_0 := cell_later hst2 R_0
      replace R_1 := cell_later hst2 R_1
      replace R_2 := cell_later hst2 R_2
      replace R_f0 := frozen_later hst2 R_l R_f0
      replace R_f1 := frozen_later hst2 R_l R_f1
      replace R_f2 := frozen_later hst2 R_l R_f2
      replace R_l := Nat.lt_of_lt_of_le R_l hst2.size
      clear hst2
      clear hc2 hb1
      go_wp2_with fail
      exact bodyPost_ret (v := .tuple #[.agg #[.int .i64 0, .slice none 0 0, .slice none 0 0], .slice none 0 0, .int .i64 36]) (by simp [results, Try.results12, go_sem, *]) rfl ⟨none, 0, 0, none, 0, 0, none, 0, 0, rfl, .zero _ _ _, (by repeat' (first | with_reducible exact hb2 | with_reducible refine Below.drew ?_ | with_reducible refine below_drewN ?_ _ | with_reducible refine Below.alloc ?_ (by have := hb2.size; first | (simp; done) | (simp; omega) | omega) _ | with_reducible refine Below.setCell ?_ (by first | (simp; done) | (simp; omega) | omega) _))⟩
    · have hLV := both_LV (hz.trans h0)
      have hql := h.qlen
      have hrl := h.rlen
      by_cases h2 : y = 2
      · subst h2
        have hwq := hLV.1.wq
        have he : A = (lkOf (grantP (-1) rs q), (grantP (-1) rs q).2.2.2, 0) := by
          rw [← hA]; unfold freeZ; rw [if_neg (by rw [hz]; simpa using h0), if_neg (by rw [hy]; exact h1), if_pos hy]
        obtain ⟨res, hres⟩ : ∃ res, grantP (-1) rs q = res := ⟨_, rfl⟩
        rw [hres] at he
        rw [h0] at hC
        clear hLV h0 h1
        have H_h := Box.mk h
        have H_he := Box.mk he
        have H_hz := Box.mk hz
        have H_hC := Box.mk hC
        have H_hH := Box.mk hH
        have H_hy := Box.mk hy
        have H_hA := Box.mk hA
        have H_hwq := Box.mk hwq
        have H_hres := Box.mk hres
        have H_hql := Box.mk hql
        have H_hrl := Box.mk hrl
        clear h he hz hC hH hy hA hwq hres hql hrl
        go_enter Try.func12, Try.ntmps12
        have hb0 := Below.refl w.heap.size w
        go_wp2_with fail
        with_reducible refine (H_hC.out _ (H_h.out.later (below_alloc3 _ _ _ _))).mono ?_
        rintro e w1 ⟨rfl, hc1⟩
        have R1 : Blk w1 (w.heap.size + 2) 25 [.int .i64 0, .slice none 0 0, .slice none 0 0] := Blk.later (Blk.newA _ _ _ _ [.int .i64 0, .slice none 0 0, .slice none 0 0] (by simp) (by rfl)) hc1
        have hb1 : Below w.heap.size w w1 := bchain (by repeat' (first | with_reducible exact hb0 | with_reducible refine Below.drew ?_ | with_reducible refine below_drewN ?_ _ | with_reducible refine Below.alloc ?_ (by have := hb0.size; first | (simp; done) | (simp; omega) | omega) _ | with_reducible refine Below.setCell ?_ (by first | (simp; done) | (simp; omega) | omega) _)) hc1
        have O_0 : w1.cell? ⟨w.heap.size, 0, none⟩ = some (.int .i64 W) := (hc1.cell (p := ⟨w.heap.size, 0, none⟩) (by first | (simp; done) | (simp; omega))).trans (by first | (simp; done) | go_simp)
        have O_1 : w1.cell? ⟨w.heap.size, 1, none⟩ = some (.slice ra rn rc) := (hc1.cell (p := ⟨w.heap.size, 1, none⟩) (by first | (simp; done) | (simp; omega))).trans (by first | (simp; done) | go_simp)
        have O_2 : w1.cell? ⟨w.heap.size, 2, none⟩ = some (.slice qa qn qc) := (hc1.cell (p := ⟨w.heap.size, 2, none⟩) (by first | (simp; done) | (simp; omega))).trans (by first | (simp; done) | go_simp)
        have O_l : w.heap.size < w1.heap.size := Nat.lt_of_lt_of_le (by first | (simp; done) | (simp; omega)) hc1.size
        have T_0 : w1.cell? ⟨w.heap.size + 1, 0, none⟩ = some (.int .i64 t) := (hc1.cell (p := ⟨w.heap.size + 1, 0, none⟩) (by first | (simp; done) | (simp; omega))).trans (by first | (simp; done) | go_simp)
        have T_l : w.heap.size + 1 < w1.heap.size := Nat.lt_of_lt_of_le (by first | (simp; done) | (simp; omega)) hc1.size
        have R_0 : w1.cell? ⟨w.heap.size + 2, 0, none⟩ = some (.int .i64 0) := (hc1.cell (p := ⟨w.heap.size + 2, 0, none⟩) (by first | (simp; done) | (simp; omega))).trans (by first | (simp; done) | go_simp)
        have R_1 : w1.cell? ⟨w.heap.size + 2, 1, none⟩ = some (.slice none 0 0) := (hc1.cell (p := ⟨w.heap.size + 2, 1, none⟩) (by first | (simp; done) | (simp; omega))).trans (by first | (simp; done) | go_simp)
        have R_2 : w1.cell? ⟨w.heap.size + 2, 2, none⟩ = some (.slice none 0 0) := (hc1.cell (p := ⟨w.heap.size + 2, 2, none⟩) (by first | (simp; done) | (simp; omega))).trans (by first | (simp; done) | go_simp)
        have R_f0 : w1.frozen? ⟨w.heap.size + 2, 0, none⟩ = false := (hc1.frozen (p := ⟨w.heap.size + 2, 0, none⟩) (by first | (simp; done) | (simp; omega))).trans (by first | (simp; done) | go_simp)
        have R_f1 : w1.frozen? ⟨w.heap.size + 2, 1, none⟩ = false := (hc1.frozen (p := ⟨w.heap.size + 2, 1, none⟩) (by first | (simp; done) | (simp; omega))).trans (by first | (simp; done) | go_simp)
        have R_f2 : w1.frozen? ⟨w.heap.size + 2, 2, none⟩ = false := (hc1.frozen (p := ⟨w.heap.size + 2, 2, none⟩) (by first | (simp; done) | (simp; omega))).trans (by first | (simp; done) | go_simp)
        have R_l : w.heap.size + 2 < w1.heap.size := Nat.lt_of_lt_of_le (by first | (simp; done) | (simp; omega)) hc1.size
        clear hc1
        go_wp2_with fail
        with_reducible refine (H_hH.out _ (H_h.out.later hb1)).mono ?_
        rintro e w2 ⟨rfl, hc2⟩
        have hb2 : Below w.heap.size w w2 := bchain (by repeat' (first | with_reducible exact hb1 | with_reducible refine Below.drew ?_ | with_reducible refine below_drewN ?_ _ | with_reducible refine Below.alloc ?_ (by have := hb1.size; first | (simp; done) | (simp; omega) | omega) _ | with_reducible refine Below.setCell ?_ (by first | (simp; done) | (simp; omega) | omega) _)) hc2
        have hst2 : Below w1.heap.size w1 w2 := bchain (by repeat' (first | with_reducible exact Below.refl _ _ | with_reducible refine Below.drew ?_ | with_reducible refine below_drewN ?_ _ | with_reducible refine Below.alloc ?_ (by first | (simp; done) | (simp; omega) | omega) _ | with_reducible refine Below.setCell ?_ (by first | (simp; done) | (simp; omega) | omega) _)) hc2
        replace O_0 := cell_later hst2 O_0
        replace O_1 := cell_later hst2 O_1
        replace O_2 := cell_later hst2 O_2
        replace O_l := Nat.lt_of_lt_of_le O_l hst2.size
        replace T_0 := cell_later hst2 T_0
        replace T_l := Nat.lt_of_lt_of_le T_l hst2.size
        replace R_0 := cell_later hst2 R_0
        replace R_1 := cell_later hst2 R_1
        replace R_2 := cell_later hst2 R_2
        replace R_f0 := frozen_later hst2 R_l R_f0
        replace R_f1 := frozen_later hst2 R_l R_f1
        replace R_f2 := frozen_later hst2 R_l R_f2
        replace R_l := Nat.lt_of_lt_of_le R_l hst2.size
        replace R1 := R1.later hst2
        clear hst2
        clear hc2 hb1
        have hR2 := R1.lt
        go_wp2_with fail
        with_reducible refine (twin_any W rs q ra qa rn rc qn qc _ (H_h.out.later hb2)).mono ?_
        rintro e w3 ⟨a1, c1, a2, c2, rfl, o3, hc3⟩
        have hz3 := hc3.size
        have hb3 : Below w.heap.size w w3 := bchain (by repeat' (first | with_reducible exact hb2 | with_reducible refine Below.drew ?_ | with_reducible refine below_drewN ?_ _ | with_reducible refine Below.alloc ?_ (by have := hb2.size; first | (simp; done) | (simp; omega) | omega) _ | with_reducible refine Below.setCell ?_ (by first | (simp; done) | (simp; omega) | omega) _)) hc3
        have hst3 : Below w2.heap.size w2 w3 := bchain (by repeat' (first | with_reducible exact Below.refl _ _ | with_reducible refine Below.drew ?_ | with_reducible refine below_drewN ?_ _ | with_reducible refine Below.alloc ?_ (by first | (simp; done) | (simp; omega) | omega) _ | with_reducible refine Below.setCell ?_ (by first | (simp; done) | (simp; omega) | omega) _)) hc3
        replace O_0 := cell_later hst3 O_0
        replace O_1 := cell_later hst3 O_1
        replace O_2 := cell_later hst3 O_2
        replace O_l := Nat.lt_of_lt_of_le O_l hst3.size
        replace T_0 := cell_later hst3 T_0
        replace T_l := Nat.lt_of_lt_of_le T_l hst3.size
        replace R_0 := cell_later hst3 R_0
        replace R_1 := cell_later hst3 R_1
        replace R_2 := cell_later hst3 R_2
        replace R_f0 := frozen_later hst3 R_l R_f0
        replace R_f1 := frozen_later hst3 R_l R_f1
        replace R_f2 := frozen_later hst3 R_l R_f2
        replace R_l := Nat.lt_of_lt_of_le R_l hst3.size
        replace R1 := R1.later hst3
        clear hst3
        clear hc3
        go_upto_region 8 with (fail)
        refine wp_facts (fun Wx => TwMid w Wx w2.heap.size w3.heap.size (w.heap.size + 2) W rs q a1 rn c1 a2 qn c2 ∧ True) ⟨⟨(by repeat' (first | with_reducible exact hb3 | with_reducible refine Below.drew ?_ | with_reducible refine below_drewN ?_ _ | with_reducible refine Below.alloc ?_ (by have := hb3.size; first | (simp; done) | (simp; omega) | omega) _ | with_reducible refine Below.setCell ?_ (by first | (simp; done) | (simp; omega) | omega) _)), R1.alloc _, Blk.new _ _ _ _ rfl, o3.rs.alloc _, o3.qs.alloc _, fun ad e => (o3.rs.addr ad e).2, fun ad e => (o3.qs.addr ad e).2, o3.rs.typed o3.qs (by decide), hR2, hz3⟩, trivial⟩ ?_
        rintro w4 ⟨hT, hX⟩
        clear hR2 hz3 R1 o3 O_0 O_1 O_2 O_l R_0 R_1 R_2 R_f0 R_f1 R_f2 R_l
        clear hX T_0 T_l
        generalize w2.heap.size = base at *
        generalize w3.heap.size = mb at *
        obtain ⟨hb4, R4, M4, rs4, q4, lt1, lt2, hne4, hrb, hbm⟩ := hT
        obtain ⟨M_0, M_1, M_2, M_f0, M_f1, M_f2, M_l⟩ := blk3 M4
        have a1lo := rs4.addr
        have a2lo := q4.addr
        have hncq : qn ≤ c2 := by obtain ⟨_, _, e0, h0, _⟩ := q4.cells; cases e0; exact h0
        have w4m := M4.lt
        have w4r := R4.lt
        have hwm : w.heap.size ≤ mb := by omega
        have m1 : Far a1 mb := fun ad e => Nat.ne_of_lt (lt1 ad e)
        have m2 : Far a2 mb := fun ad e => Nat.ne_of_lt (lt2 ad e)
        have r1 : Far a1 (w.heap.size + 2) := fun ad e => by have := (a1lo ad e).1; omega
        have r2 : Far a2 (w.heap.size + 2) := fun ad e => by have := (a2lo ad e).1; omega
        have hRM : ¬ ((w.heap.size + 2) = mb) := by omega
        have hMR : ¬ (mb = (w.heap.size + 2)) := by omega
        have hb5 := hb4
        have R5 := R4
        have M5 := M4
        go_wp2_with fail
        refine (grant_any (-1) rs q a1 a2 rn c1 qn c2 base _ (by simp; omega) (rs4.setFar (a := ⟨mb, 0, none⟩) (Ne.symm (own_not m1)) _) (q4.cellsAt.setFarG (p := ⟨mb, 0, none⟩) m2 _) H_hql.out (fun ad e => by have := (a2lo ad e).2; simp; omega) (by omega) (by omega) H_hwq.out).mono ?_
        rw [H_hres.out]
        rintro e w6 ⟨b1, n1, d1, b2, n2, d2, b3, n3, d3, rfl, hG, hcap, hc6⟩
        have R6 := Blk.later (R5.setFar (p := ⟨mb, 0, none⟩) (by simp; omega) (.int .i64 (-1))) hc6
        have M6 := Blk.later (M5.set 0 (.int .i64 (-1))) hc6
        have hb6 : Below w.heap.size w w6 := bchain (hb5.setCell hwm _) hc6
        have w6m := M5.lt
        have w6r := R5.lt
        clear R5 M5 M_0 M_1 M_2 M_f0 M_f1 M_f2 M_l hc6
        obtain ⟨M_0, M_1, M_2, M_f0, M_f1, M_f2, M_l⟩ := blk3 M6
        obtain ⟨R_0, R_1, R_2, R_f0, R_f1, R_f2, R_l⟩ := blk3 R6
        have hl := hG.l
        have holen := hG.olen
        have H_holen := Box.mk holen
        clear holen
        have g1 := hG.fr mb (by simp; omega) m1
        have g2 := hG.fr _ (by simp; omega) r1
        have g3 := hG.fq mb m2
        have g4 := hG.fq _ r2
        have g5 := hG.fo mb (by simp; omega)
        have g6 := hG.fo (w.heap.size + 2) (by simp; omega)
        go_wp2_with fail
        refine bodyPost_ret (v := .tuple #[.agg #[.int .i64 res.1, .slice b1 n1 d1, .slice b2 n2 d2], .slice b3 n3 d3, .int .i64 0]) (by simp [results, Try.results12, go_sem, *]) rfl ⟨b1, n1, d1, b2, n2, d2, b3, n3, d3, by rw [H_he.out]; rfl, ?_, ?_⟩
        · rw [H_he.out]
          exact ⟨⟨⟨hl.rlen, hl.qlen, (hl.rs.far3 g1).far3 g2, (hl.qs.far3 g3).far3 g4, hl.rmax, hl.qmax⟩, fun B hB => hG.fr B (by simp; omega) (fun ad e => by have := (a1lo ad e).1; omega), fun B hB => hG.fq B (fun ad e => by have := (a2lo ad e).1; omega)⟩, H_holen.out, (hG.out.far3 g5).far3 g6, fun B hB => hG.fo B (by simp; omega)⟩
        · repeat' (first | with_reducible exact hb6 | with_reducible refine Below.setCell ?_ (by first | (simp; done) | (simp; omega) | omega) _)
      · have hy1 : W ≠ t ∧ t ∈ rs := by
          unfold hasZ at hy
          split at hy
          · omega
          · split at hy
            · rename_i e1 e2; exact ⟨e1, by simpa using e2⟩
            · split at hy <;> omega
        have hwq := hLV.1.wq.del t
        have hinc := hLV.1.wq.inc
        have hmem := hy1.2
        have hne2 : (y == 2) = false := beq_eq_false_iff_ne.2 h2
        have he : A = (lkOf (grantP W (delL rs t) q), (grantP W (delL rs t) q).2.2.2, 0) := by
          rw [← hA]; unfold freeZ; rw [if_neg (by rw [hz]; simpa using h0), if_neg (by rw [hy]; exact h1), if_neg (by rw [hy]; exact h2)]
        obtain ⟨res, hres⟩ : ∃ res, grantP W (delL rs t) q = res := ⟨_, rfl⟩
        rw [hres] at he
        rw [h0] at hC
        clear hLV h0 hy1 h2
        have H_h := Box.mk h
        have H_he := Box.mk he
        have H_hz := Box.mk hz
        have H_hC := Box.mk hC
        have H_hH := Box.mk hH
        have H_hy := Box.mk hy
        have H_hA := Box.mk hA
        have H_hwq := Box.mk hwq
        have H_hres := Box.mk hres
        have H_hql := Box.mk hql
        have H_hrl := Box.mk hrl
        have H_hinc := Box.mk hinc
        have H_hmem := Box.mk hmem
        clear h he hz hC hH hy hA hwq hres hql hrl hinc hmem
        go_enter Try.func12, Try.ntmps12
        have hb0 := Below.refl w.heap.size w
        go_wp2_with fail
        with_reducible refine (H_hC.out _ (H_h.out.later (below_alloc3 _ _ _ _))).mono ?_
        rintro e w1 ⟨rfl, hc1⟩
        have R1 : Blk w1 (w.heap.size + 2) 25 [.int .i64 0, .slice none 0 0, .slice none 0 0] := Blk.later (Blk.newA _ _ _ _ [.int .i64 0, .slice none 0 0, .slice none 0 0] (by simp) (by rfl)) hc1
        have hb1 : Below w.heap.size w w1 := bchain (by repeat' (first | with_reducible exact hb0 | with_reducible refine Below.drew ?_ | with_reducible refine below_drewN ?_ _ | with_reducible refine Below.alloc ?_ (by have := hb0.size; first | (simp; done) | (simp; omega) | omega) _ | with_reducible refine Below.setCell ?_ (by first | (simp; done) | (simp; omega) | omega) _)) hc1
        have O_0 : w1.cell? ⟨w.heap.size, 0, none⟩ = some (.int .i64 W) := (hc1.cell (p := ⟨w.heap.size, 0, none⟩) (by first | (simp; done) | (simp; omega))).trans (by first | (simp; done) | go_simp)
        have O_1 : w1.cell? ⟨w.heap.size, 1, none⟩ = some (.slice ra rn rc) := (hc1.cell (p := ⟨w.heap.size, 1, none⟩) (by first | (simp; done) | (simp; omega))).trans (by first | (simp; done) | go_simp)
        have O_2 : w1.cell? ⟨w.heap.size, 2, none⟩ = some (.slice qa qn qc) := (hc1.cell (p := ⟨w.heap.size, 2, none⟩) (by first | (simp; done) | (simp; omega))).trans (by first | (simp; done) | go_simp)
        have O_l : w.heap.size < w1.heap.size := Nat.lt_of_lt_of_le (by first | (simp; done) | (simp; omega)) hc1.size
        have T_0 : w1.cell? ⟨w.heap.size + 1, 0, none⟩ = some (.int .i64 t) := (hc1.cell (p := ⟨w.heap.size + 1, 0, none⟩) (by first | (simp; done) | (simp; omega))).trans (by first | (simp; done) | go_simp)
        have T_l : w.heap.size + 1 < w1.heap.size := Nat.lt_of_lt_of_le (by first | (simp; done) | (simp; omega)) hc1.size
        have R_0 : w1.cell? ⟨w.heap.size + 2, 0, none⟩ = some (.int .i64 0) := (hc1.cell (p := ⟨w.heap.size + 2, 0, none⟩) (by first | (simp; done) | (simp; omega))).trans (by first | (simp; done) | go_simp)
        have R_1 : w1.cell? ⟨w.heap.size + 2, 1, none⟩ = some (.slice none 0 0) := (hc1.cell (p := ⟨w.heap.size + 2, 1, none⟩) (by first | (simp; done) | (simp; omega))).trans (by first | (simp; done) | go_simp)
        have R_2 : w1.cell? ⟨w.heap.size + 2, 2, none⟩ = some (.slice none 0 0) := (hc1.cell (p := ⟨w.heap.size + 2, 2, none⟩) (by first | (simp; done) | (simp; omega))).trans (by first | (simp; done) | go_simp)
        have R_f0 : w1.frozen? ⟨w.heap.size + 2, 0, none⟩ = false := (hc1.frozen (p := ⟨w.heap.size + 2, 0, none⟩) (by first | (simp; done) | (simp; omega))).trans (by first | (simp; done) | go_simp)
        have R_f1 : w1.frozen? ⟨w.heap.size + 2, 1, none⟩ = false := (hc1.frozen (p := ⟨w.heap.size + 2, 1, none⟩) (by first | (simp; done) | (simp; omega))).trans (by first | (simp; done) | go_simp)
        have R_f2 : w1.frozen? ⟨w.heap.size + 2, 2, none⟩ = false := (hc1.frozen (p := ⟨w.heap.size + 2, 2, none⟩) (by first | (simp; done) | (simp; omega))).trans (by first | (simp; done) | go_simp)
        have R_l : w.heap.size + 2 < w1.heap.size := Nat.lt_of_lt_of_le (by first | (simp; done) | (simp; omega)) hc1.size
        clear hc1
        go_wp2_with fail
        with_reducible refine (H_hH.out _ (H_h.out.later hb1)).mono ?_
        rintro e w2 ⟨rfl, hc2⟩
        have hb2 : Below w.heap.size w w2 := bchain (by repeat' (first | with_reducible exact hb1 | with_reducible refine Below.drew ?_ | with_reducible refine below_drewN ?_ _ | with_reducible refine Below.alloc ?_ (by have := hb1.size; first | (simp; done) | (simp; omega) | omega) _ | with_reducible refine Below.setCell ?_ (by first | (simp; done) | (simp; omega) | omega) _)) hc2
        have hst2 : Below w1.heap.size w1 w2 := bchain (by repeat' (first | with_reducible exact Below.refl _ _ | with_reducible refine Below.drew ?_ | with_reducible refine below_drewN ?_ _ | with_reducible refine Below.alloc ?_ (by first | (simp; done) | (simp; omega) | omega) _ | with_reducible refine Below.setCell ?_ (by first | (simp; done) | (simp; omega) | omega) _)) hc2
        replace O_0 := cell_later hst2 O_0
        replace O_1 := cell_later hst2 O_1
        replace O_2 := cell_later hst2 O_2
        replace O_l := Nat.lt_of_lt_of_le O_l hst2.size
        replace T_0 := cell_later hst2 T_0
        replace T_l := Nat.lt_of_lt_of_le T_l hst2.size
        replace R_0 := cell_later hst2 R_0
        replace R_1 := cell_later hst2 R_1
        replace R_2 := cell_later hst2 R_2
        replace R_f0 := frozen_later hst2 R_l R_f0
        replace R_f1 := frozen_later hst2 R_l R_f1
        replace R_f2 := frozen_later hst2 R_l R_f2
        replace R_l := Nat.lt_of_lt_of_le R_l hst2.size
        replace R1 := R1.later hst2
        clear hst2
        clear hc2 hb1
        have h2z := R1.lt
        have hR2 := R1.lt
        go_wp2_with fail
        with_reducible refine (twin_any W rs q ra qa rn rc qn qc _ (H_h.out.later hb2)).mono ?_
        rintro e w3 ⟨a1, c1, a2, c2, rfl, o3, hc3⟩
        have hz3 := hc3.size
        have hb3 : Below w.heap.size w w3 := bchain (by repeat' (first | with_reducible exact hb2 | with_reducible refine Below.drew ?_ | with_reducible refine below_drewN ?_ _ | with_reducible refine Below.alloc ?_ (by have := hb2.size; first | (simp; done) | (simp; omega) | omega) _ | with_reducible refine Below.setCell ?_ (by first | (simp; done) | (simp; omega) | omega) _)) hc3
        have hst3 : Below w2.heap.size w2 w3 := bchain (by repeat' (first | with_reducible exact Below.refl _ _ | with_reducible refine Below.drew ?_ | with_reducible refine below_drewN ?_ _ | with_reducible refine Below.alloc ?_ (by first | (simp; done) | (simp; omega) | omega) _ | with_reducible refine Below.setCell ?_ (by first | (simp; done) | (simp; omega) | omega) _)) hc3
        replace O_0 := cell_later hst3 O_0
        replace O_1 := cell_later hst3 O_1
        replace O_2 := cell_later hst3 O_2
        replace O_l := Nat.lt_of_lt_of_le O_l hst3.size
        replace T_0 := cell_later hst3 T_0
        replace T_l := Nat.lt_of_lt_of_le T_l hst3.size
        replace R_0 := cell_later hst3 R_0
        replace R_1 := cell_later hst3 R_1
        replace R_2 := cell_later hst3 R_2
        replace R_f0 := frozen_later hst3 R_l R_f0
        replace R_f1 := frozen_later hst3 R_l R_f1
        replace R_f2 := frozen_later hst3 R_l R_f2
        replace R_l := Nat.lt_of_lt_of_le R_l hst3.size
        replace R1 := R1.later hst3
        clear hst3
        clear hc3
        go_upto_region 8 with (fail)
        refine wp_facts (fun Wx => TwMid w Wx w2.heap.size w3.heap.size (w.heap.size + 2) W rs q a1 rn c1 a2 qn c2 ∧ Wx.cell? ⟨w.heap.size + 1, 0, none⟩ = some (.int .i64 t)) ⟨⟨(by repeat' (first | with_reducible exact hb3 | with_reducible refine Below.drew ?_ | with_reducible refine below_drewN ?_ _ | with_reducible refine Below.alloc ?_ (by have := hb3.size; first | (simp; done) | (simp; omega) | omega) _ | with_reducible refine Below.setCell ?_ (by first | (simp; done) | (simp; omega) | omega) _)), R1.alloc _, Blk.new _ _ _ _ rfl, o3.rs.alloc _, o3.qs.alloc _, fun ad e => (o3.rs.addr ad e).2, fun ad e => (o3.qs.addr ad e).2, o3.rs.typed o3.qs (by decide), hR2, hz3⟩, (cell_later (below_alloc _ _) T_0)⟩ ?_
        rintro w4 ⟨hT, hX⟩
        clear hR2 hz3 R1 o3 O_0 O_1 O_2 O_l R_0 R_1 R_2 R_f0 R_f1 R_f2 R_l
        clear T_0 T_l
        generalize w2.heap.size = base at *
        generalize w3.heap.size = mb at *
        obtain ⟨hb4, R4, M4, rs4, q4, lt1, lt2, hne4, hrb, hbm⟩ := hT
        obtain ⟨M_0, M_1, M_2, M_f0, M_f1, M_f2, M_l⟩ := blk3 M4
        have a1lo := rs4.addr
        have a2lo := q4.addr
        have hncq : qn ≤ c2 := by obtain ⟨_, _, e0, h0, _⟩ := q4.cells; cases e0; exact h0
        have w4m := M4.lt
        have w4r := R4.lt
        have hwm : w.heap.size ≤ mb := by omega
        have m1 : Far a1 mb := fun ad e => Nat.ne_of_lt (lt1 ad e)
        have m2 : Far a2 mb := fun ad e => Nat.ne_of_lt (lt2 ad e)
        have r1 : Far a1 (w.heap.size + 2) := fun ad e => by have := (a1lo ad e).1; omega
        have r2 : Far a2 (w.heap.size + 2) := fun ad e => by have := (a2lo ad e).1; omega
        have hRM : ¬ ((w.heap.size + 2) = mb) := by omega
        have hMR : ¬ (mb = (w.heap.size + 2)) := by omega
        go_wp2_with fail
        refine (delF_any t rs a1 rn c1 base (w.heap.size + 1) _ rs4 H_hrl.out H_hinc.out H_hmem.out (by omega) (by omega) (by omega) hX).mono ?_
        rintro e w5 ⟨rfl, rs5, hB5, hK5⟩
        have R5 := R4.keptX hK5 r1
        have M5 := M4.keptX hK5 m1
        have q5 := q4.keptX hK5 (fun ad bd e1 e2 => (hne4 bd ad e2 e1).symm)
        have hb5 : Below w.heap.size w w5 := hb4.trans (hB5.mono (by omega))
        have z5 := hK5.size
        clear R4 M4 rs4 q4 hB5 hK5 M_0 M_1 M_2 M_f0 M_f1 M_f2 M_l
        obtain ⟨M_0, M_1, M_2, M_f0, M_f1, M_f2, M_l⟩ := blk3 M5
        go_wp2_with fail
        refine (grant_any W (delL rs t) q a1 a2 (rn - 1) c1 qn c2 base _ (by simp; omega) (rs5.setFar (a := ⟨mb, 1, none⟩) (Ne.symm (own_not m1)) _) (q5.cellsAt.setFarG (p := ⟨mb, 1, none⟩) m2 _) H_hql.out (fun ad e => by have := (a2lo ad e).2; simp; omega) (by omega) (by omega) H_hwq.out).mono ?_
        rw [H_hres.out]
        rintro e w6 ⟨b1, n1, d1, b2, n2, d2, b3, n3, d3, rfl, hG, hcap, hc6⟩
        have R6 := Blk.later (R5.setFar (p := ⟨mb, 1, none⟩) (by simp; omega) (.slice a1 (rn - 1) c1)) hc6
        have M6 := Blk.later (M5.set 1 (.slice a1 (rn - 1) c1)) hc6
        have hb6 : Below w.heap.size w w6 := bchain (hb5.setCell hwm _) hc6
        have w6m := M5.lt
        have w6r := R5.lt
        clear R5 M5 M_0 M_1 M_2 M_f0 M_f1 M_f2 M_l hc6
        obtain ⟨M_0, M_1, M_2, M_f0, M_f1, M_f2, M_l⟩ := blk3 M6
        obtain ⟨R_0, R_1, R_2, R_f0, R_f1, R_f2, R_l⟩ := blk3 R6
        have hl := hG.l
        have holen := hG.olen
        have H_holen := Box.mk holen
        clear holen
        have g1 := hG.fr mb (by simp; omega) m1
        have g2 := hG.fr _ (by simp; omega) r1
        have g3 := hG.fq mb m2
        have g4 := hG.fq _ r2
        have g5 := hG.fo mb (by simp; omega)
        have g6 := hG.fo (w.heap.size + 2) (by simp; omega)
        go_wp2_with fail
        refine bodyPost_ret (v := .tuple #[.agg #[.int .i64 res.1, .slice b1 n1 d1, .slice b2 n2 d2], .slice b3 n3 d3, .int .i64 0]) (by simp [results, Try.results12, go_sem, *]) rfl ⟨b1, n1, d1, b2, n2, d2, b3, n3, d3, by rw [H_he.out]; rfl, ?_, ?_⟩
        · rw [H_he.out]
          exact ⟨⟨⟨hl.rlen, hl.qlen, (hl.rs.far3 g1).far3 g2, (hl.qs.far3 g3).far3 g4, hl.rmax, hl.qmax⟩, fun B hB => hG.fr B (by simp; omega) (fun ad e => by have := (a1lo ad e).1; omega), fun B hB => hG.fq B (fun ad e => by have := (a2lo ad e).1; omega)⟩, H_holen.out, (hG.out.far3 g5).far3 g6, fun B hB => hG.fo B (by simp; omega)⟩
        · repeat' (first | with_reducible exact hb6 | with_reducible refine Below.setCell ?_ (by first | (simp; done) | (simp; omega) | omega) _)
  · have he : A = (lk0, [], z) := by
      rw [← hA]; unfold freeZ; rw [if_pos (by rw [hz]; exact h0), hz]
    have hne : (z != 0) = true := bne_iff_ne.2 h0
    clear h0
    have H_h := Box.mk h
    have H_hz := Box.mk hz
    have H_hC := Box.mk hC
    have H_hH := Box.mk hH
    have H_hy := Box.mk hy
    have H_hA := Box.mk hA
    clear h hz hC hH hy hA
    subst he
    go_enter Try.func12, Try.ntmps12
    have hb0 := Below.refl w.heap.size w
    go_wp2_with fail
    with_reducible refine (H_hC.out _ (H_h.out.later (below_alloc3 _ _ _ _))).mono ?_
    rintro e w1 ⟨rfl, hc1⟩
    have hb1 : Below w.heap.size w w1 := bchain (by repeat' (first | with_reducible exact hb0 | with_reducible refine Below.drew ?_ | with_reducible refine below_drewN ?_ _ | with_reducible refine Below.alloc ?_ (by have := hb0.size; first | (simp; done) | (simp; omega) | omega) _ | with_reducible refine Below.setCell ?_ (by first | (simp; done) | (simp; omega) | omega) _)) hc1
    have O_0 : w1.cell? ⟨w.heap.size, 0, none⟩ = some (.int .i64 W) := (hc1.cell (p := ⟨w.heap.size, 0, none⟩) (by first | (simp; done) | (simp; omega))).trans (by first | (simp; done) | go_simp)
    have O_1 : w1.cell? ⟨w.heap.size, 1, none⟩ = some (.slice ra rn rc) := (hc1.cell (p := ⟨w.heap.size, 1, none⟩) (by first | (simp; done) | (simp; omega))).trans (by first | (simp; done) | go_simp)
    have O_2 : w1.cell? ⟨w.heap.size, 2, none⟩ = some (.slice qa qn qc) := (hc1.cell (p := ⟨w.heap.size, 2, none⟩) (by first | (simp; done) | (simp; omega))).trans (by first | (simp; done) | go_simp)
    have O_l : w.heap.size < w1.heap.size := Nat.lt_of_lt_of_le (by first | (simp; done) | (simp; omega)) hc1.size
    have T_0 : w1.cell? ⟨w.heap.size + 1, 0, none⟩ = some (.int .i64 t) := (hc1.cell (p := ⟨w.heap.size + 1, 0, none⟩) (by first | (simp; done) | (simp; omega))).trans (by first | (simp; done) | go_simp)
    have T_l : w.heap.size + 1 < w1.heap.size := Nat.lt_of_lt_of_le (by first | (simp; done) | (simp; omega)) hc1.size
    have R_0 : w1.cell? ⟨w.heap.size + 2, 0, none⟩ = some (.int .i64 0) := (hc1.cell (p := ⟨w.heap.size + 2, 0, none⟩) (by first | (simp; done) | (simp; omega))).trans (by first | (simp; done) | go_simp)
    have R_1 : w1.cell? ⟨w.heap.size + 2, 1, none⟩ = some (.slice none 0 0) := (hc1.cell (p := ⟨w.heap.size + 2, 1, none⟩) (by first | (simp; done) | (simp; omega))).trans (by first | (simp; done) | go_simp)
    have R_2 : w1.cell? ⟨w.heap.size + 2, 2, none⟩ = some (.slice none 0 0) := (hc1.cell (p := ⟨w.heap.size + 2, 2, none⟩) (by first | (simp; done) | (simp; omega))).trans (by first | (simp; done) | go_simp)
    have R_f0 : w1.frozen? ⟨w.heap.size + 2, 0, none⟩ = false := (hc1.frozen (p := ⟨w.heap.size + 2, 0, none⟩) (by first | (simp; done) | (simp; omega))).trans (by first | (simp; done) | go_simp)
    have R_f1 : w1.frozen? ⟨w.heap.size + 2, 1, none⟩ = false := (hc1.frozen (p := ⟨w.heap.size + 2, 1, none⟩) (by first | (simp; done) | (simp; omega))).trans (by first | (simp; done) | go_simp)
    have R_f2 : w1.frozen? ⟨w.heap.size + 2, 2, none⟩ = false := (hc1.frozen (p := ⟨w.heap.size + 2, 2, none⟩) (by first | (simp; done) | (simp; omega))).trans (by first | (simp; done) | go_simp)
    have R_l : w.heap.size + 2 < w1.heap.size := Nat.lt_of_lt_of_le (by first | (simp; done) | (simp; omega)) hc1.size
    clear hc1 hb0
    go_wp2_with fail
    exact bodyPost_ret (v := .tuple #[.agg #[.int .i64 0, .slice none 0 0, .slice none 0 0], .slice none 0 0, .int .i64 z]) (by simp [results, Try.results12, go_sem, *]) rfl ⟨none, 0, 0, none, 0, 0, none, 0, 0, rfl, .zero _ _ _, (by repeat' (first | with_reducible exact hb1 | with_reducible refine Below.drew ?_ | with_reducible refine below_drewN ?_ _ | with_reducible refine Below.alloc ?_ (by have := hb1.size; first | (simp; done) | (simp; omega) | omega) _ | with_reducible refine Below.setCell ?_ (by first | (simp; done) | (simp; omega) | omega) _))⟩

end Go.Proofs.Ytnkbbfeaodppgaa
