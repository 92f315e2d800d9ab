/- The reference's Free and Leave. -/
import Derived.Test.YtnkbbfeaodppgaaLockRAsk
namespace Go.Proofs.Ytnkbbfeaodppgaa
set_option linter.unusedSimpArgs false
set_option linter.unusedVariables false
set_option linter.unnecessarySimpa false
open Go.RowKit

theorem delL_snoc {rs : List Int} {t : Int} {i : Nat} {x : Int} (hx : rs[i]? = some x) : delL (rs.take (i + 1)) t = if x = t then delL (rs.take i) t else delL (rs.take i) t ++ [x] := by
  unfold delL
  rw [List.take_add_one, hx, List.filter_append]
  by_cases h : x = t
  · simp [h]
  · simp [h]
def delW (q : Waits) (t : Int) : Waits := q.filter (·.1 != t)
theorem delW_snoc {q : Waits} {t : Int} {i : Nat} {x : Int} {b : Bool} (hx : q[i]? = some (x, b)) : delW (q.take (i + 1)) t = if x = t then delW (q.take i) t else delW (q.take i) t ++ [(x, b)] := by
  unfold delW
  rw [List.take_add_one, hx, List.filter_append]
  by_cases h : x = t
  · simp [h]
  · simp [h]
theorem delW_at {t : Int} : ∀ (q : Waits) (i : Nat), (q.map (·.1)).Nodup → (q.map (·.1))[i]? = some t → delW q t = q.eraseIdx i
  | [], i, _, h => by simp at h
  | w :: q, 0, hd, h => by
    have hw : w.1 = t := by simpa using h
    have hn := (List.nodup_cons.1 hd).1
    unfold delW
    rw [List.filter_cons_of_neg (by simp [hw]), List.eraseIdx_cons_zero, List.filter_eq_self]
    intro y hy
    simp only [bne_iff_ne, ne_eq]
    exact fun e => hn (List.mem_map.2 ⟨y, hy, e.trans hw.symm⟩)
  | w :: q, i + 1, hd, h => by
    have hr : (q.map (·.1))[i]? = some t := by simpa using h
    have hn := List.nodup_cons.1 hd
    have hwt : w.1 ≠ t := fun e => hn.1 (by show w.1 ∈ _; rw [e]; exact List.mem_of_getElem? hr)
    unfold delW
    rw [List.filter_cons_of_pos (by simpa using hwt), List.eraseIdx_cons_succ]
    exact congrArg (w :: ·) (delW_at q i hn.2 hr)

/-- The loop's state. -/
structure FSt (w wv : World) (mb : Nat) (oc mc : List Value) (q : Waits) (a2 : Option Addr) : Prop where
  hb : Below w.heap.size w wv
  R : Blk wv (w.heap.size + 1) 25 [.int .i64 0, .slice none 0 0, .slice none 0 0]
  O : Blk wv w.heap.size 25 oc
  M : Blk wv mb 25 mc
  q : CellsAt wv a2 (celW q)

/- The two checks, the twin; $1 the region behind it. -/
/- Behind granted: $1 the function. -/

/- Free's loop: $1 the writer. -/

set_option maxRecDepth 100000 in
set_option maxHeartbeats 4000000 in
theorem rFree_any (W t : Int) (rs : List Int) (q : Waits) (ra qa : Option Addr) (rn rc qn qc : Nat) (w : World) (h : LockIn w rs q ra qa rn qn) (hmx : rn + qn ≤ 999999) :
    Calls Try.prog 19 #[.agg #[.int .i64 W, .slice ra rn rc, .slice qa qn qc], .int .i64 t] w fun e w' =>
      ∃ a1 n1 c1 a2 n2 c2 a3 n3 c3, e = .returned (.tuple #[.agg #[.int .i64 (freeZ W rs q t).1.1, .slice a1 n1 c1, .slice a2 n2 c2], .slice a3 n3 c3, .int .i64 (freeZ W rs q t).2.2]) ∧ FreeOut w.heap.size w' (freeZ W rs q t) a1 n1 a2 n2 a3 n3 ∧ Below w.heap.size w w' := by
  obtain ⟨i0, hi, hz0, hz1, hz2⟩ := info_parts info_i64
  have hrm := h.rmax
  have hqm := h.qmax
  have hC := fun W' h => rBoth_any W t rs q ra qa rn rc qn qc W' h
  have hH := fun W' h => rhas_any W t rs q ra qa rn rc qn qc W' h
  obtain ⟨z, hz⟩ : ∃ z, bothZ W rs q t = z := ⟨_, rfl⟩
  obtain ⟨y, hy⟩ : ∃ y, hasZ W rs q t = y := ⟨_, rfl⟩
  obtain ⟨A, hA⟩ : ∃ A, freeZ W rs q t = A := ⟨_, rfl⟩
  rw [hz] at hC
  rw [hy] at hH
  rw [hA]
  by_cases h0 : z = 0
  · by_cases h1 : y < 1
    · have he : A = (lk0, [], 36) := by
        rw [← hA]; unfold freeZ; rw [if_neg (by rw [hz]; simpa using h0), if_pos (by rw [hy]; exact h1)]
      rw [h0] at hC
      clear h0
      have H_h := Box.mk h
      have H_hz := Box.mk hz
      have H_hC := Box.mk hC
      have H_hH := Box.mk hH
      have H_hy := Box.mk hy
      have H_hA := Box.mk hA
      clear h hz hC hH hy hA
      subst he
      go_enter Try.func19, Try.ntmps19
      have hb0 := Below.refl w.heap.size w
      go_wp2_with fail
      with_reducible refine (H_hC.out _ (H_h.out.later (below_alloc2 _ _ _))).mono ?_
      rintro e w1 ⟨rfl, hc1⟩
      have hb1 : Below w.heap.size w w1 := bchain (by repeat' (first | with_reducible exact hb0 | with_reducible refine Below.drew ?_ | with_reducible refine below_drewN ?_ _ | with_reducible refine Below.alloc ?_ (by have := hb0.size; first | (simp; done) | (simp; omega) | omega) _ | with_reducible refine Below.setCell ?_ (by first | (simp; done) | (simp; omega) | omega) _)) hc1
      have O_0 : w1.cell? ⟨w.heap.size, 0, none⟩ = some (.int .i64 W) := (hc1.cell (p := ⟨w.heap.size, 0, none⟩) (by first | (simp; done) | (simp; omega))).trans (by first | (simp; done) | go_simp)
      have O_1 : w1.cell? ⟨w.heap.size, 1, none⟩ = some (.slice ra rn rc) := (hc1.cell (p := ⟨w.heap.size, 1, none⟩) (by first | (simp; done) | (simp; omega))).trans (by first | (simp; done) | go_simp)
      have O_2 : w1.cell? ⟨w.heap.size, 2, none⟩ = some (.slice qa qn qc) := (hc1.cell (p := ⟨w.heap.size, 2, none⟩) (by first | (simp; done) | (simp; omega))).trans (by first | (simp; done) | go_simp)
      have O_l : w.heap.size < w1.heap.size := Nat.lt_of_lt_of_le (by first | (simp; done) | (simp; omega)) hc1.size
      have R_0 : w1.cell? ⟨w.heap.size + 1, 0, none⟩ = some (.int .i64 0) := (hc1.cell (p := ⟨w.heap.size + 1, 0, none⟩) (by first | (simp; done) | (simp; omega))).trans (by first | (simp; done) | go_simp)
      have R_1 : w1.cell? ⟨w.heap.size + 1, 1, none⟩ = some (.slice none 0 0) := (hc1.cell (p := ⟨w.heap.size + 1, 1, none⟩) (by first | (simp; done) | (simp; omega))).trans (by first | (simp; done) | go_simp)
      have R_2 : w1.cell? ⟨w.heap.size + 1, 2, none⟩ = some (.slice none 0 0) := (hc1.cell (p := ⟨w.heap.size + 1, 2, none⟩) (by first | (simp; done) | (simp; omega))).trans (by first | (simp; done) | go_simp)
      have R_f0 : w1.frozen? ⟨w.heap.size + 1, 0, none⟩ = false := (hc1.frozen (p := ⟨w.heap.size + 1, 0, none⟩) (by first | (simp; done) | (simp; omega))).trans (by first | (simp; done) | go_simp)
      have R_f1 : w1.frozen? ⟨w.heap.size + 1, 1, none⟩ = false := (hc1.frozen (p := ⟨w.heap.size + 1, 1, none⟩) (by first | (simp; done) | (simp; omega))).trans (by first | (simp; done) | go_simp)
      have R_f2 : w1.frozen? ⟨w.heap.size + 1, 2, none⟩ = false := (hc1.frozen (p := ⟨w.heap.size + 1, 2, none⟩) (by first | (simp; done) | (simp; omega))).trans (by first | (simp; done) | go_simp)
      have R_l : w.heap.size + 1 < w1.heap.size := Nat.lt_of_lt_of_le (by first | (simp; done) | (simp; omega)) hc1.size
      clear hc1 hb0
      go_wp2_with fail
      with_reducible refine (H_hH.out _ (H_h.out.later hb1)).mono ?_
      rintro e w2 ⟨rfl, hc2⟩
      have hb2 : Below w.heap.size w w2 := bchain (by repeat' (first | with_reducible exact hb1 | with_reducible refine Below.drew ?_ | with_reducible refine below_drewN ?_ _ | with_reducible refine Below.alloc ?_ (by have := hb1.size; first | (simp; done) | (simp; omega) | omega) _ | with_reducible refine Below.setCell ?_ (by first | (simp; done) | (simp; omega) | omega) _)) hc2
      have hst2 : Below w1.heap.size w1 w2 := bchain (by repeat' (first | with_reducible exact Below.refl _ _ | with_reducible refine Below.drew ?_ | with_reducible refine below_drewN ?_ _ | with_reducible refine Below.alloc ?_ (by first | (simp; done) | (simp; omega) | omega) _ | with_reducible refine Below.setCell ?_ (by first | (simp; done) | (simp; omega) | omega) _)) hc2
      replace O_0 := cell_later hst2 O_0
      replace O_1 := cell_later hst2 O_1
      replace O_2 := cell_later hst2 O_2
      replace O_l := Nat.lt_of_lt_of_le O_l hst2.size
      replace R_0 := cell_later hst2 R_0
      replace R_1 := cell_later hst2 R_1
      replace R_2 := cell_later hst2 R_2
      replace R_f0 := frozen_later hst2 R_l R_f0
      replace R_f1 := frozen_later hst2 R_l R_f1
      replace R_f2 := frozen_later hst2 R_l R_f2
      replace R_l := Nat.lt_of_lt_of_le R_l hst2.size
      clear hst2
      clear hc2 hb1
      go_wp2_with fail
      exact bodyPost_ret (v := .tuple #[.agg #[.int .i64 0, .slice none 0 0, .slice none 0 0], .slice none 0 0, .int .i64 36]) (by simp [results, Try.results19, go_sem, *]) rfl ⟨none, 0, 0, none, 0, 0, none, 0, 0, rfl, .zero _ _ _, (by repeat' (first | with_reducible exact hb2 | with_reducible refine Below.drew ?_ | with_reducible refine below_drewN ?_ _ | with_reducible refine Below.alloc ?_ (by have := hb2.size; first | (simp; done) | (simp; omega) | omega) _ | with_reducible refine Below.setCell ?_ (by first | (simp; done) | (simp; omega) | omega) _))⟩
    · have hLV := both_LV (hz.trans h0)
      have hql := h.qlen
      by_cases hWt : W = t
      · have hWb : (W == t) = true := beq_iff_eq.2 hWt
        have hrs : rs = [] := by
          rcases hLV.1.hw with e | ⟨_, e⟩
          · rw [hWt] at e; exact absurd e (taskB_ne hLV.2)
          · exact e
        have hy2 : y = 2 := by rw [← hy]; unfold hasZ; rw [if_pos hWt]
        have hdl : delL rs t = rs := by rw [hrs]; rfl
        have hwq : Wq (delL rs t) q := by rw [hdl]; exact hLV.1.wq
        obtain ⟨res, hres⟩ : ∃ res, grantP (-1) (delL rs t) q = res := ⟨_, rfl⟩
        have he : A = (lkOf res, res.2.2.2, 0) := by
          rw [← hA, ← hres, hdl]; unfold freeZ; rw [if_neg (by rw [hz]; simpa using h0), if_neg (by rw [hy]; exact h1), if_pos (by rw [hy]; exact hy2)]
        have hrl := h.rlen
        rw [h0] at hC
        have hy1 : 1 ≤ y := by omega
        clear hrs hy2 hdl hWt h0 h1
        have H_h := Box.mk h
        have H_hz := Box.mk hz
        have H_hC := Box.mk hC
        have H_hH := Box.mk hH
        have H_hy := Box.mk hy
        have H_hA := Box.mk hA
        have H_hql := Box.mk hql
        have H_hLV := Box.mk hLV
        have H_hwq := Box.mk hwq
        have H_hres := Box.mk hres
        have H_he := Box.mk he
        have H_hrl := Box.mk hrl
        clear h hz hC hH hy hA hql hLV hwq hres he hrl
        go_enter Try.func19, Try.ntmps19
        have hb0 := Below.refl w.heap.size w
        go_wp2_with fail
        with_reducible refine (H_hC.out _ (H_h.out.later (below_alloc2 _ _ _))).mono ?_
        rintro e w1 ⟨rfl, hc1⟩
        have R1 : Blk w1 (w.heap.size + 1) 25 [.int .i64 0, .slice none 0 0, .slice none 0 0] := Blk.later (Blk.newA _ _ _ _ [.int .i64 0, .slice none 0 0, .slice none 0 0] (by simp) (by rfl)) hc1
        have O1 : Blk w1 w.heap.size 25 [.int .i64 W, .slice ra rn rc, .slice qa qn qc] := Blk.later ((Blk.new w _ [.int .i64 W, .slice ra rn rc, .slice qa qn qc] _ rfl).alloc _) hc1
        have hb1 : Below w.heap.size w w1 := bchain (by repeat' (first | with_reducible exact hb0 | with_reducible refine Below.drew ?_ | with_reducible refine below_drewN ?_ _ | with_reducible refine Below.alloc ?_ (by have := hb0.size; first | (simp; done) | (simp; omega) | omega) _ | with_reducible refine Below.setCell ?_ (by first | (simp; done) | (simp; omega) | omega) _)) hc1
        have O_0 : w1.cell? ⟨w.heap.size, 0, none⟩ = some (.int .i64 W) := (hc1.cell (p := ⟨w.heap.size, 0, none⟩) (by first | (simp; done) | (simp; omega))).trans (by first | (simp; done) | go_simp)
        have O_1 : w1.cell? ⟨w.heap.size, 1, none⟩ = some (.slice ra rn rc) := (hc1.cell (p := ⟨w.heap.size, 1, none⟩) (by first | (simp; done) | (simp; omega))).trans (by first | (simp; done) | go_simp)
        have O_2 : w1.cell? ⟨w.heap.size, 2, none⟩ = some (.slice qa qn qc) := (hc1.cell (p := ⟨w.heap.size, 2, none⟩) (by first | (simp; done) | (simp; omega))).trans (by first | (simp; done) | go_simp)
        have O_l : w.heap.size < w1.heap.size := Nat.lt_of_lt_of_le (by first | (simp; done) | (simp; omega)) hc1.size
        have R_0 : w1.cell? ⟨w.heap.size + 1, 0, none⟩ = some (.int .i64 0) := (hc1.cell (p := ⟨w.heap.size + 1, 0, none⟩) (by first | (simp; done) | (simp; omega))).trans (by first | (simp; done) | go_simp)
        have R_1 : w1.cell? ⟨w.heap.size + 1, 1, none⟩ = some (.slice none 0 0) := (hc1.cell (p := ⟨w.heap.size + 1, 1, none⟩) (by first | (simp; done) | (simp; omega))).trans (by first | (simp; done) | go_simp)
        have R_2 : w1.cell? ⟨w.heap.size + 1, 2, none⟩ = some (.slice none 0 0) := (hc1.cell (p := ⟨w.heap.size + 1, 2, none⟩) (by first | (simp; done) | (simp; omega))).trans (by first | (simp; done) | go_simp)
        have R_f0 : w1.frozen? ⟨w.heap.size + 1, 0, none⟩ = false := (hc1.frozen (p := ⟨w.heap.size + 1, 0, none⟩) (by first | (simp; done) | (simp; omega))).trans (by first | (simp; done) | go_simp)
        have R_f1 : w1.frozen? ⟨w.heap.size + 1, 1, none⟩ = false := (hc1.frozen (p := ⟨w.heap.size + 1, 1, none⟩) (by first | (simp; done) | (simp; omega))).trans (by first | (simp; done) | go_simp)
        have R_f2 : w1.frozen? ⟨w.heap.size + 1, 2, none⟩ = false := (hc1.frozen (p := ⟨w.heap.size + 1, 2, none⟩) (by first | (simp; done) | (simp; omega))).trans (by first | (simp; done) | go_simp)
        have R_l : w.heap.size + 1 < w1.heap.size := Nat.lt_of_lt_of_le (by first | (simp; done) | (simp; omega)) hc1.size
        clear hc1
        go_wp2_with fail
        with_reducible refine (H_hH.out _ (H_h.out.later hb1)).mono ?_
        rintro e w2 ⟨rfl, hc2⟩
        have hb2 : Below w.heap.size w w2 := bchain (by repeat' (first | with_reducible exact hb1 | with_reducible refine Below.drew ?_ | with_reducible refine below_drewN ?_ _ | with_reducible refine Below.alloc ?_ (by have := hb1.size; first | (simp; done) | (simp; omega) | omega) _ | with_reducible refine Below.setCell ?_ (by first | (simp; done) | (simp; omega) | omega) _)) hc2
        have hst2 : Below w1.heap.size w1 w2 := bchain (by repeat' (first | with_reducible exact Below.refl _ _ | with_reducible refine Below.drew ?_ | with_reducible refine below_drewN ?_ _ | with_reducible refine Below.alloc ?_ (by first | (simp; done) | (simp; omega) | omega) _ | with_reducible refine Below.setCell ?_ (by first | (simp; done) | (simp; omega) | omega) _)) hc2
        replace O_0 := cell_later hst2 O_0
        replace O_1 := cell_later hst2 O_1
        replace O_2 := cell_later hst2 O_2
        replace O_l := Nat.lt_of_lt_of_le O_l hst2.size
        replace R_0 := cell_later hst2 R_0
        replace R_1 := cell_later hst2 R_1
        replace R_2 := cell_later hst2 R_2
        replace R_f0 := frozen_later hst2 R_l R_f0
        replace R_f1 := frozen_later hst2 R_l R_f1
        replace R_f2 := frozen_later hst2 R_l R_f2
        replace R_l := Nat.lt_of_lt_of_le R_l hst2.size
        replace R1 := R1.later hst2
        replace O1 := O1.later hst2
        clear hst2
        clear hc2 hb1
        have hR2 := R1.lt
        go_wp2_with fail
        with_reducible refine (rtwin_own W rs q ra qa rn rc qn qc _ (H_h.out.later hb2)).mono ?_
        rintro e w3 ⟨a1, c1, a2, c2, rfl, o3, hc3⟩
        have hz3 := hc3.size
        have hb3 : Below w.heap.size w w3 := bchain (by repeat' (first | with_reducible exact hb2 | with_reducible refine Below.drew ?_ | with_reducible refine below_drewN ?_ _ | with_reducible refine Below.alloc ?_ (by have := hb2.size; first | (simp; done) | (simp; omega) | omega) _ | with_reducible refine Below.setCell ?_ (by first | (simp; done) | (simp; omega) | omega) _)) hc3
        have hst3 : Below w2.heap.size w2 w3 := bchain (by repeat' (first | with_reducible exact Below.refl _ _ | with_reducible refine Below.drew ?_ | with_reducible refine below_drewN ?_ _ | with_reducible refine Below.alloc ?_ (by first | (simp; done) | (simp; omega) | omega) _ | with_reducible refine Below.setCell ?_ (by first | (simp; done) | (simp; omega) | omega) _)) hc3
        replace O_0 := cell_later hst3 O_0
        replace O_1 := cell_later hst3 O_1
        replace O_2 := cell_later hst3 O_2
        replace O_l := Nat.lt_of_lt_of_le O_l hst3.size
        replace R_0 := cell_later hst3 R_0
        replace R_1 := cell_later hst3 R_1
        replace R_2 := cell_later hst3 R_2
        replace R_f0 := frozen_later hst3 R_l R_f0
        replace R_f1 := frozen_later hst3 R_l R_f1
        replace R_f2 := frozen_later hst3 R_l R_f2
        replace R_l := Nat.lt_of_lt_of_le R_l hst3.size
        replace R1 := R1.later hst3
        replace O1 := O1.later hst3
        clear hst3
        clear hc3
        go_upto_region 6 with (fail)
        refine wp_facts (fun Wx => TwMid w Wx w2.heap.size w3.heap.size (w.heap.size + 1) W rs q a1 rn c1 a2 qn c2 ∧ Blk Wx w.heap.size 25 [.int .i64 W, .slice ra rn rc, .slice qa qn qc]) ⟨⟨(by repeat' (first | with_reducible exact hb3 | with_reducible refine Below.drew ?_ | with_reducible refine below_drewN ?_ _ | with_reducible refine Below.alloc ?_ (by have := hb3.size; first | (simp; done) | (simp; omega) | omega) _ | with_reducible refine Below.setCell ?_ (by first | (simp; done) | (simp; omega) | omega) _)), R1.alloc _, Blk.new _ _ _ _ rfl, o3.rs.alloc _, o3.qs.alloc _, fun ad e => (o3.rs.addr ad e).2, fun ad e => (o3.qs.addr ad e).2, o3.rs.typed o3.qs (by decide), hR2, hz3⟩, O1.alloc _⟩ ?_
        rintro w4 ⟨hT, O4⟩
        clear hR2 hz3 R1 O1 o3 O_0 O_1 O_2 O_l R_0 R_1 R_2 R_f0 R_f1 R_f2 R_l
        generalize w2.heap.size = base at *
        generalize w3.heap.size = mb at *
        obtain ⟨hb4, R4, M4, rs4, q4, lt1, lt2, hne4, hrb, hbm⟩ := hT
        have hwm : w.heap.size ≤ mb := by omega
        have rm : ¬ (w.heap.size + 1 = mb) := by omega
        have om : ¬ (w.heap.size = mb) := by omega
        have mr : ¬ (mb = w.heap.size + 1) := by omega
        have m2 : Far a2 mb := fun ad e => Nat.ne_of_lt (lt2 ad e)
        have m1 : Far a1 mb := fun ad e => Nat.ne_of_lt (lt1 ad e)
        obtain ⟨M_0, M_1, M_2, M_f0, M_f1, M_f2, M_l⟩ := blk3 M4
        obtain ⟨O_0, O_1, O_2, _, _, _, O_l⟩ := blk3 O4
        have hF : FSt w ((w4.setCell ⟨mb, 1, none⟩ (.slice none 0 0)).setCell ⟨mb, 0, none⟩ (.int .i64 (-1))) mb [.int .i64 W, .slice ra rn rc, .slice qa qn qc] [.int .i64 (-1), .slice none 0 0, .slice a2 qn c2] q a2 := ⟨(hb4.setCell hwm _).setCell hwm _, (R4.setFar (p := ⟨mb, 1, none⟩) rm _).setFar (p := ⟨mb, 0, none⟩) rm _, (O4.setFar (p := ⟨mb, 1, none⟩) om _).setFar (p := ⟨mb, 0, none⟩) om _, (M4.set 1 _).set 0 _, (q4.cellsAt.setFarG (p := ⟨mb, 1, none⟩) m2 _).setFarG (p := ⟨mb, 0, none⟩) m2 _⟩
        go_wp2_with fail
        clear R4 M4 O4 rs4 q4 M_0 M_1 M_2 M_f0 M_f1 M_f2 M_l O_0 O_1 O_2 O_l
        go_loopw [8] (fun i wv => ∃ (p k cv : Nat) (av : Option Addr), p ≤ rn ∧ i = .int .i64 p ∧ FSt w wv mb [.int .i64 W, .slice ra rn rc, .slice qa qn qc] [.int .i64 (-1), .slice av k cv, .slice a2 qn c2] q a2 ∧ OwnX wv (mb + 1) 3 1 (.slice av k cv) k ((delL (rs.take p) t).map (Value.int .i64)) ∧ k ≤ p) (fun i _ => rn - (intOf i).toNat)
        case atStart => exact ⟨0, 0, 0, none, Nat.zero_le _, rfl, hF, OwnX.nil _ _ _ _, Nat.le_refl _⟩
        case round =>
          obtain ⟨p, k, cv, av, hp, rfl, hS, ow, hkp⟩ := hrel
          clear hF
          obtain ⟨hbv, Rv, Ov, Mv, qv⟩ := hS
          obtain ⟨M_0, M_1, M_2, M_f0, M_f1, M_f2, M_l⟩ := blk3 Mv
          obtain ⟨O_0, O_1, O_2, _, _, _, O_l⟩ := blk3 Ov
          by_cases hpr : p < rn
          · have hpI : (p : Int) < (rn : Int) := by omega
            obtain ⟨b0, o0, rfl, cl⟩ := (H_h.out.later hbv).rs.int (by have := H_h.out.rlen; omega)
            replace cl := cl p (by have := H_h.out.rlen; omega)
            obtain ⟨x, hx⟩ : ∃ x, rs[p]? = some x := ⟨_, List.getElem?_eq_getElem (by have := H_h.out.rlen; omega)⟩
            rw [hx] at cl
            simp only [Option.getD_some] at cl
            have hsn := delL_snoc (t := t) hx
            by_cases hxt : x = t
            · have hb' : (x != t) = false := by simp [hxt]
              rw [if_pos hxt] at hsn
              clear hxt
              have H_hx := Box.mk hx
              have H_hsn := Box.mk hsn
              clear hx hsn
              go_wp2_with fail
              go_roundw
              case rel => exact ⟨p + 1, k, cv, av, by omega, by first | rfl | go_num, ⟨hbv, Rv, Ov, Mv, qv⟩, by rw [H_hsn.out]; exact ow, by omega⟩
              case measure => simp [intOf]; omega
            · have hb' : (x != t) = true := by simp [hxt]
              rw [if_neg hxt] at hsn
              have olo := ow.addr
              have alt2 := lt2
              clear hxt
              have H_hx := Box.mk hx
              have H_hsn := Box.mk hsn
              clear hx hsn
              go_wp2_with fail
              have mixed : Try.prog.follows .mixedOrders = true := by kernel_rfl
              go_region_law_o (refine step_append_x _ rfl (.tmp 46) (.tmp 52) 22 rfl (mb + 1) 3 i0 (.int .i64 0) 1 8 Try.underlying22 hi hz0 hz1 hz2 rfl (by decide) (.slice av k cv) k _ (by simp [Act.eval, Act.put]) (ow.drew.alloc _) (some ⟨wr.heap.size, 0, none⟩) 1 1 [.int .i64 x] (by simp [Act.eval, Act.put]) rfl (cellsAt_one wr.drew _ _) (oneCell_int _ _) (by unfold maxLen; omega) (by omega) (by simp; omega) ?_; intro a5 c5 w5 o5 hg hk5; have M5 := blk_grown (Mv.drew.alloc _) hg (own_not fun ad e => by have := (olo ad e).1; omega); obtain ⟨M5_0, M5_1, M5_2, M5_f0, M5_f1, M5_f2, M5_l⟩ := blk3 M5)
              all_goals
                (have hb5 : Below w.heap.size w w5 := below_grownX ((Below.drew hbv).alloc (by have := hbv.size; simp; omega) _) hg (by have := hbv.size; simp; omega) (fun z h => by have := (ow.lt z h).1; omega)
                 have R5 := blk_grown (Rv.drew.alloc _) hg (own_not fun ad e => by have := (olo ad e).1; omega)
                 have O5 := blk_grown (Ov.drew.alloc _) hg (own_not fun ad e => by have := (olo ad e).1; omega)
                 have q5 := cellsAt_grown (qv.drew.alloc _) hg (fun ad e => own_not fun bd e2 => by have := lt2 ad e; have := (olo bd e2).1; omega)
                 go_wp2_with fail
                 go_roundw
                 case rel => exact ⟨p + 1, k + 1, c5, a5, by omega, by first | rfl | go_num, ⟨hb5.setCell hwm _, R5.setFar (p := ⟨mb, 1, none⟩) rm _, O5.setFar (p := ⟨mb, 1, none⟩) om _, M5.set 1 _, q5.setFarG (p := ⟨mb, 1, none⟩) m2 _⟩, by rw [H_hsn.out, List.map_append]; exact o5.setCell (by simp) _, by omega⟩
                 case measure => simp [intOf]; omega)
          · have hpI : (rn : Int) ≤ (p : Int) := by omega
            obtain rfl : p = rn := by omega
            have hall : rs.take p = rs := List.take_of_length_le (by have := H_hrl.out; omega)
            rw [hall] at ow
            have hkl : k = (delL rs t).length := by have := ow.len; rw [List.length_map] at this; omega
            clear hall
            have H_hkl := Box.mk hkl
            clear hkl
            have M5 := Mv
            have R5 := Rv
            have hb5 := hbv
            clear Mv Rv
            go_wp2_with fail
            refine (granted_any (-1) (delL rs t) q av a2 k cv qn c2 _ ⟨H_hkl.out, H_hql.out, ow.cellsAt, qv, by omega, by omega⟩ (by omega) H_hwq.out).mono ?_
            rw [H_hres.out]
            rintro e w6 ⟨b1, n1, d1, b2, n2, d2, b3, n3, d3, rfl, hG, hc6⟩
            have w6m := M5.lt
            have R6 := R5.later hc6
            have M6 := M5.later hc6
            have hb6 : Below w.heap.size w w6 := bchain hb5 hc6
            clear R5 M5 M_0 M_1 M_2 M_f0 M_f1 M_f2 M_l hc6
            obtain ⟨M_0, M_1, M_2, M_f0, M_f1, M_f2, M_l⟩ := blk3 M6
            obtain ⟨R_0, R_1, R_2, R_f0, R_f1, R_f2, R_l⟩ := blk3 R6
            have hl := hG.l.l
            have holen := hG.olen
            have H_holen := Box.mk holen
            clear holen
            have g1 := hG.l.f1 mb (by omega)
            have g2 := hG.l.f1 (w.heap.size + 1) (by omega)
            have g3 := hG.l.f2 mb (by omega)
            have g4 := hG.l.f2 (w.heap.size + 1) (by omega)
            have g5 := hG.f3 mb (by omega)
            have g6 := hG.f3 (w.heap.size + 1) (by omega)
            have f1' := hG.l.f1
            have f2' := hG.l.f2
            have f3' := hG.f3
            have hz5 := hb5.size
            go_wp2_with fail
            refine bodyPost_ret (v := .tuple #[.agg #[.int .i64 res.1, .slice b1 n1 d1, .slice b2 n2 d2], .slice b3 n3 d3, .int .i64 0]) (by simp [results, Try.results19, go_sem, *]) rfl ⟨b1, n1, d1, b2, n2, d2, b3, n3, d3, by rw [H_he.out]; rfl, ?_, ?_⟩
            · rw [H_he.out]
              exact ⟨⟨⟨hl.rlen, hl.qlen, (hl.rs.far3 g1).far3 g2, (hl.qs.far3 g3).far3 g4, hl.rmax, hl.qmax⟩, fun B hB => f1' B (by omega), fun B hB => f2' B (by omega)⟩, H_holen.out, (hG.out.far3 g5).far3 g6, fun B hB => f3' B (by omega)⟩
            · repeat' (first | with_reducible exact hb6 | with_reducible refine Below.setCell ?_ (by first | (simp; done) | (simp; omega) | omega) _)
      · have hWb : (W == t) = false := beq_eq_false_iff_ne.2 hWt
        have hy2 : ¬ (y = 2) := fun e => by
          rcases has_pos (W := W) (rs := rs) (q := q) (t := t) with ⟨_, e1⟩ | ⟨e1, _⟩ | ⟨e1, _⟩ | ⟨e1, _⟩
          · exact hWt e1
          · omega
          · omega
          · omega
        have hwq : Wq (delL rs t) q := hLV.1.wq.del t
        obtain ⟨res, hres⟩ : ∃ res, grantP W (delL rs t) q = res := ⟨_, rfl⟩
        have he : A = (lkOf res, res.2.2.2, 0) := by
          rw [← hA, ← hres]; unfold freeZ; rw [if_neg (by rw [hz]; simpa using h0), if_neg (by rw [hy]; exact h1), if_neg (by rw [hy]; exact hy2)]
        have hrl := h.rlen
        rw [h0] at hC
        have hy1 : 1 ≤ y := by omega
        clear hy2 hWt h0 h1
        have H_h := Box.mk h
        have H_hz := Box.mk hz
        have H_hC := Box.mk hC
        have H_hH := Box.mk hH
        have H_hy := Box.mk hy
        have H_hA := Box.mk hA
        have H_hql := Box.mk hql
        have H_hLV := Box.mk hLV
        have H_hwq := Box.mk hwq
        have H_hres := Box.mk hres
        have H_he := Box.mk he
        have H_hrl := Box.mk hrl
        clear h hz hC hH hy hA hql hLV hwq hres he hrl
        go_enter Try.func19, Try.ntmps19
        have hb0 := Below.refl w.heap.size w
        go_wp2_with fail
        with_reducible refine (H_hC.out _ (H_h.out.later (below_alloc2 _ _ _))).mono ?_
        rintro e w1 ⟨rfl, hc1⟩
        have R1 : Blk w1 (w.heap.size + 1) 25 [.int .i64 0, .slice none 0 0, .slice none 0 0] := Blk.later (Blk.newA _ _ _ _ [.int .i64 0, .slice none 0 0, .slice none 0 0] (by simp) (by rfl)) hc1
        have O1 : Blk w1 w.heap.size 25 [.int .i64 W, .slice ra rn rc, .slice qa qn qc] := Blk.later ((Blk.new w _ [.int .i64 W, .slice ra rn rc, .slice qa qn qc] _ rfl).alloc _) hc1
        have hb1 : Below w.heap.size w w1 := bchain (by repeat' (first | with_reducible exact hb0 | with_reducible refine Below.drew ?_ | with_reducible refine below_drewN ?_ _ | with_reducible refine Below.alloc ?_ (by have := hb0.size; first | (simp; done) | (simp; omega) | omega) _ | with_reducible refine Below.setCell ?_ (by first | (simp; done) | (simp; omega) | omega) _)) hc1
        have O_0 : w1.cell? ⟨w.heap.size, 0, none⟩ = some (.int .i64 W) := (hc1.cell (p := ⟨w.heap.size, 0, none⟩) (by first | (simp; done) | (simp; omega))).trans (by first | (simp; done) | go_simp)
        have O_1 : w1.cell? ⟨w.heap.size, 1, none⟩ = some (.slice ra rn rc) := (hc1.cell (p := ⟨w.heap.size, 1, none⟩) (by first | (simp; done) | (simp; omega))).trans (by first | (simp; done) | go_simp)
        have O_2 : w1.cell? ⟨w.heap.size, 2, none⟩ = some (.slice qa qn qc) := (hc1.cell (p := ⟨w.heap.size, 2, none⟩) (by first | (simp; done) | (simp; omega))).trans (by first | (simp; done) | go_simp)
        have O_l : w.heap.size < w1.heap.size := Nat.lt_of_lt_of_le (by first | (simp; done) | (simp; omega)) hc1.size
        have R_0 : w1.cell? ⟨w.heap.size + 1, 0, none⟩ = some (.int .i64 0) := (hc1.cell (p := ⟨w.heap.size + 1, 0, none⟩) (by first | (simp; done) | (simp; omega))).trans (by first | (simp; done) | go_simp)
        have R_1 : w1.cell? ⟨w.heap.size + 1, 1, none⟩ = some (.slice none 0 0) := (hc1.cell (p := ⟨w.heap.size + 1, 1, none⟩) (by first | (simp; done) | (simp; omega))).trans (by first | (simp; done) | go_simp)
        have R_2 : w1.cell? ⟨w.heap.size + 1, 2, none⟩ = some (.slice none 0 0) := (hc1.cell (p := ⟨w.heap.size + 1, 2, none⟩) (by first | (simp; done) | (simp; omega))).trans (by first | (simp; done) | go_simp)
        have R_f0 : w1.frozen? ⟨w.heap.size + 1, 0, none⟩ = false := (hc1.frozen (p := ⟨w.heap.size + 1, 0, none⟩) (by first | (simp; done) | (simp; omega))).trans (by first | (simp; done) | go_simp)
        have R_f1 : w1.frozen? ⟨w.heap.size + 1, 1, none⟩ = false := (hc1.frozen (p := ⟨w.heap.size + 1, 1, none⟩) (by first | (simp; done) | (simp; omega))).trans (by first | (simp; done) | go_simp)
        have R_f2 : w1.frozen? ⟨w.heap.size + 1, 2, none⟩ = false := (hc1.frozen (p := ⟨w.heap.size + 1, 2, none⟩) (by first | (simp; done) | (simp; omega))).trans (by first | (simp; done) | go_simp)
        have R_l : w.heap.size + 1 < w1.heap.size := Nat.lt_of_lt_of_le (by first | (simp; done) | (simp; omega)) hc1.size
        clear hc1
        go_wp2_with fail
        with_reducible refine (H_hH.out _ (H_h.out.later hb1)).mono ?_
        rintro e w2 ⟨rfl, hc2⟩
        have hb2 : Below w.heap.size w w2 := bchain (by repeat' (first | with_reducible exact hb1 | with_reducible refine Below.drew ?_ | with_reducible refine below_drewN ?_ _ | with_reducible refine Below.alloc ?_ (by have := hb1.size; first | (simp; done) | (simp; omega) | omega) _ | with_reducible refine Below.setCell ?_ (by first | (simp; done) | (simp; omega) | omega) _)) hc2
        have hst2 : Below w1.heap.size w1 w2 := bchain (by repeat' (first | with_reducible exact Below.refl _ _ | with_reducible refine Below.drew ?_ | with_reducible refine below_drewN ?_ _ | with_reducible refine Below.alloc ?_ (by first | (simp; done) | (simp; omega) | omega) _ | with_reducible refine Below.setCell ?_ (by first | (simp; done) | (simp; omega) | omega) _)) hc2
        replace O_0 := cell_later hst2 O_0
        replace O_1 := cell_later hst2 O_1
        replace O_2 := cell_later hst2 O_2
        replace O_l := Nat.lt_of_lt_of_le O_l hst2.size
        replace R_0 := cell_later hst2 R_0
        replace R_1 := cell_later hst2 R_1
        replace R_2 := cell_later hst2 R_2
        replace R_f0 := frozen_later hst2 R_l R_f0
        replace R_f1 := frozen_later hst2 R_l R_f1
        replace R_f2 := frozen_later hst2 R_l R_f2
        replace R_l := Nat.lt_of_lt_of_le R_l hst2.size
        replace R1 := R1.later hst2
        replace O1 := O1.later hst2
        clear hst2
        clear hc2 hb1
        have hR2 := R1.lt
        go_wp2_with fail
        with_reducible refine (rtwin_own W rs q ra qa rn rc qn qc _ (H_h.out.later hb2)).mono ?_
        rintro e w3 ⟨a1, c1, a2, c2, rfl, o3, hc3⟩
        have hz3 := hc3.size
        have hb3 : Below w.heap.size w w3 := bchain (by repeat' (first | with_reducible exact hb2 | with_reducible refine Below.drew ?_ | with_reducible refine below_drewN ?_ _ | with_reducible refine Below.alloc ?_ (by have := hb2.size; first | (simp; done) | (simp; omega) | omega) _ | with_reducible refine Below.setCell ?_ (by first | (simp; done) | (simp; omega) | omega) _)) hc3
        have hst3 : Below w2.heap.size w2 w3 := bchain (by repeat' (first | with_reducible exact Below.refl _ _ | with_reducible refine Below.drew ?_ | with_reducible refine below_drewN ?_ _ | with_reducible refine Below.alloc ?_ (by first | (simp; done) | (simp; omega) | omega) _ | with_reducible refine Below.setCell ?_ (by first | (simp; done) | (simp; omega) | omega) _)) hc3
        replace O_0 := cell_later hst3 O_0
        replace O_1 := cell_later hst3 O_1
        replace O_2 := cell_later hst3 O_2
        replace O_l := Nat.lt_of_lt_of_le O_l hst3.size
        replace R_0 := cell_later hst3 R_0
        replace R_1 := cell_later hst3 R_1
        replace R_2 := cell_later hst3 R_2
        replace R_f0 := frozen_later hst3 R_l R_f0
        replace R_f1 := frozen_later hst3 R_l R_f1
        replace R_f2 := frozen_later hst3 R_l R_f2
        replace R_l := Nat.lt_of_lt_of_le R_l hst3.size
        replace R1 := R1.later hst3
        replace O1 := O1.later hst3
        clear hst3
        clear hc3
        go_upto_region 6 with (fail)
        refine wp_facts (fun Wx => TwMid w Wx w2.heap.size w3.heap.size (w.heap.size + 1) W rs q a1 rn c1 a2 qn c2 ∧ Blk Wx w.heap.size 25 [.int .i64 W, .slice ra rn rc, .slice qa qn qc]) ⟨⟨(by repeat' (first | with_reducible exact hb3 | with_reducible refine Below.drew ?_ | with_reducible refine below_drewN ?_ _ | with_reducible refine Below.alloc ?_ (by have := hb3.size; first | (simp; done) | (simp; omega) | omega) _ | with_reducible refine Below.setCell ?_ (by first | (simp; done) | (simp; omega) | omega) _)), R1.alloc _, Blk.new _ _ _ _ rfl, o3.rs.alloc _, o3.qs.alloc _, fun ad e => (o3.rs.addr ad e).2, fun ad e => (o3.qs.addr ad e).2, o3.rs.typed o3.qs (by decide), hR2, hz3⟩, O1.alloc _⟩ ?_
        rintro w4 ⟨hT, O4⟩
        clear hR2 hz3 R1 O1 o3 O_0 O_1 O_2 O_l R_0 R_1 R_2 R_f0 R_f1 R_f2 R_l
        generalize w2.heap.size = base at *
        generalize w3.heap.size = mb at *
        obtain ⟨hb4, R4, M4, rs4, q4, lt1, lt2, hne4, hrb, hbm⟩ := hT
        have hwm : w.heap.size ≤ mb := by omega
        have rm : ¬ (w.heap.size + 1 = mb) := by omega
        have om : ¬ (w.heap.size = mb) := by omega
        have mr : ¬ (mb = w.heap.size + 1) := by omega
        have m2 : Far a2 mb := fun ad e => Nat.ne_of_lt (lt2 ad e)
        have m1 : Far a1 mb := fun ad e => Nat.ne_of_lt (lt1 ad e)
        obtain ⟨M_0, M_1, M_2, M_f0, M_f1, M_f2, M_l⟩ := blk3 M4
        obtain ⟨O_0, O_1, O_2, _, _, _, O_l⟩ := blk3 O4
        have hF : FSt w (w4.setCell ⟨mb, 1, none⟩ (.slice none 0 0)) mb [.int .i64 W, .slice ra rn rc, .slice qa qn qc] [.int .i64 W, .slice none 0 0, .slice a2 qn c2] q a2 := ⟨hb4.setCell hwm _, R4.setFar (p := ⟨mb, 1, none⟩) rm _, O4.setFar (p := ⟨mb, 1, none⟩) om _, M4.set 1 _, q4.cellsAt.setFarG (p := ⟨mb, 1, none⟩) m2 _⟩
        go_wp2_with fail
        clear R4 M4 O4 rs4 q4 M_0 M_1 M_2 M_f0 M_f1 M_f2 M_l O_0 O_1 O_2 O_l
        go_loopw [8] (fun i wv => ∃ (p k cv : Nat) (av : Option Addr), p ≤ rn ∧ i = .int .i64 p ∧ FSt w wv mb [.int .i64 W, .slice ra rn rc, .slice qa qn qc] [.int .i64 W, .slice av k cv, .slice a2 qn c2] q a2 ∧ OwnX wv (mb + 1) 3 1 (.slice av k cv) k ((delL (rs.take p) t).map (Value.int .i64)) ∧ k ≤ p) (fun i _ => rn - (intOf i).toNat)
        case atStart => exact ⟨0, 0, 0, none, Nat.zero_le _, rfl, hF, OwnX.nil _ _ _ _, Nat.le_refl _⟩
        case round =>
          obtain ⟨p, k, cv, av, hp, rfl, hS, ow, hkp⟩ := hrel
          clear hF
          obtain ⟨hbv, Rv, Ov, Mv, qv⟩ := hS
          obtain ⟨M_0, M_1, M_2, M_f0, M_f1, M_f2, M_l⟩ := blk3 Mv
          obtain ⟨O_0, O_1, O_2, _, _, _, O_l⟩ := blk3 Ov
          by_cases hpr : p < rn
          · have hpI : (p : Int) < (rn : Int) := by omega
            obtain ⟨b0, o0, rfl, cl⟩ := (H_h.out.later hbv).rs.int (by have := H_h.out.rlen; omega)
            replace cl := cl p (by have := H_h.out.rlen; omega)
            obtain ⟨x, hx⟩ : ∃ x, rs[p]? = some x := ⟨_, List.getElem?_eq_getElem (by have := H_h.out.rlen; omega)⟩
            rw [hx] at cl
            simp only [Option.getD_some] at cl
            have hsn := delL_snoc (t := t) hx
            by_cases hxt : x = t
            · have hb' : (x != t) = false := by simp [hxt]
              rw [if_pos hxt] at hsn
              clear hxt
              have H_hx := Box.mk hx
              have H_hsn := Box.mk hsn
              clear hx hsn
              go_wp2_with fail
              go_roundw
              case rel => exact ⟨p + 1, k, cv, av, by omega, by first | rfl | go_num, ⟨hbv, Rv, Ov, Mv, qv⟩, by rw [H_hsn.out]; exact ow, by omega⟩
              case measure => simp [intOf]; omega
            · have hb' : (x != t) = true := by simp [hxt]
              rw [if_neg hxt] at hsn
              have olo := ow.addr
              have alt2 := lt2
              clear hxt
              have H_hx := Box.mk hx
              have H_hsn := Box.mk hsn
              clear hx hsn
              go_wp2_with fail
              have mixed : Try.prog.follows .mixedOrders = true := by kernel_rfl
              go_region_law_o (refine step_append_x _ rfl (.tmp 46) (.tmp 52) 22 rfl (mb + 1) 3 i0 (.int .i64 0) 1 8 Try.underlying22 hi hz0 hz1 hz2 rfl (by decide) (.slice av k cv) k _ (by simp [Act.eval, Act.put]) (ow.drew.alloc _) (some ⟨wr.heap.size, 0, none⟩) 1 1 [.int .i64 x] (by simp [Act.eval, Act.put]) rfl (cellsAt_one wr.drew _ _) (oneCell_int _ _) (by unfold maxLen; omega) (by omega) (by simp; omega) ?_; intro a5 c5 w5 o5 hg hk5; have M5 := blk_grown (Mv.drew.alloc _) hg (own_not fun ad e => by have := (olo ad e).1; omega); obtain ⟨M5_0, M5_1, M5_2, M5_f0, M5_f1, M5_f2, M5_l⟩ := blk3 M5)
              all_goals
                (have hb5 : Below w.heap.size w w5 := below_grownX ((Below.drew hbv).alloc (by have := hbv.size; simp; omega) _) hg (by have := hbv.size; simp; omega) (fun z h => by have := (ow.lt z h).1; omega)
                 have R5 := blk_grown (Rv.drew.alloc _) hg (own_not fun ad e => by have := (olo ad e).1; omega)
                 have O5 := blk_grown (Ov.drew.alloc _) hg (own_not fun ad e => by have := (olo ad e).1; omega)
                 have q5 := cellsAt_grown (qv.drew.alloc _) hg (fun ad e => own_not fun bd e2 => by have := lt2 ad e; have := (olo bd e2).1; omega)
                 go_wp2_with fail
                 go_roundw
                 case rel => exact ⟨p + 1, k + 1, c5, a5, by omega, by first | rfl | go_num, ⟨hb5.setCell hwm _, R5.setFar (p := ⟨mb, 1, none⟩) rm _, O5.setFar (p := ⟨mb, 1, none⟩) om _, M5.set 1 _, q5.setFarG (p := ⟨mb, 1, none⟩) m2 _⟩, by rw [H_hsn.out, List.map_append]; exact o5.setCell (by simp) _, by omega⟩
                 case measure => simp [intOf]; omega)
          · have hpI : (rn : Int) ≤ (p : Int) := by omega
            obtain rfl : p = rn := by omega
            have hall : rs.take p = rs := List.take_of_length_le (by have := H_hrl.out; omega)
            rw [hall] at ow
            have hkl : k = (delL rs t).length := by have := ow.len; rw [List.length_map] at this; omega
            clear hall
            have H_hkl := Box.mk hkl
            clear hkl
            have M5 := Mv
            have R5 := Rv
            have hb5 := hbv
            clear Mv Rv
            go_wp2_with fail
            refine (granted_any W (delL rs t) q av a2 k cv qn c2 _ ⟨H_hkl.out, H_hql.out, ow.cellsAt, qv, by omega, by omega⟩ (by omega) H_hwq.out).mono ?_
            rw [H_hres.out]
            rintro e w6 ⟨b1, n1, d1, b2, n2, d2, b3, n3, d3, rfl, hG, hc6⟩
            have w6m := M5.lt
            have R6 := R5.later hc6
            have M6 := M5.later hc6
            have hb6 : Below w.heap.size w w6 := bchain hb5 hc6
            clear R5 M5 M_0 M_1 M_2 M_f0 M_f1 M_f2 M_l hc6
            obtain ⟨M_0, M_1, M_2, M_f0, M_f1, M_f2, M_l⟩ := blk3 M6
            obtain ⟨R_0, R_1, R_2, R_f0, R_f1, R_f2, R_l⟩ := blk3 R6
            have hl := hG.l.l
            have holen := hG.olen
            have H_holen := Box.mk holen
            clear holen
            have g1 := hG.l.f1 mb (by omega)
            have g2 := hG.l.f1 (w.heap.size + 1) (by omega)
            have g3 := hG.l.f2 mb (by omega)
            have g4 := hG.l.f2 (w.heap.size + 1) (by omega)
            have g5 := hG.f3 mb (by omega)
            have g6 := hG.f3 (w.heap.size + 1) (by omega)
            have f1' := hG.l.f1
            have f2' := hG.l.f2
            have f3' := hG.f3
            have hz5 := hb5.size
            go_wp2_with fail
            refine bodyPost_ret (v := .tuple #[.agg #[.int .i64 res.1, .slice b1 n1 d1, .slice b2 n2 d2], .slice b3 n3 d3, .int .i64 0]) (by simp [results, Try.results19, go_sem, *]) rfl ⟨b1, n1, d1, b2, n2, d2, b3, n3, d3, by rw [H_he.out]; rfl, ?_, ?_⟩
            · rw [H_he.out]
              exact ⟨⟨⟨hl.rlen, hl.qlen, (hl.rs.far3 g1).far3 g2, (hl.qs.far3 g3).far3 g4, hl.rmax, hl.qmax⟩, fun B hB => f1' B (by omega), fun B hB => f2' B (by omega)⟩, H_holen.out, (hG.out.far3 g5).far3 g6, fun B hB => f3' B (by omega)⟩
            · repeat' (first | with_reducible exact hb6 | with_reducible refine Below.setCell ?_ (by first | (simp; done) | (simp; omega) | omega) _)
  · have he : A = (lk0, [], z) := by
      rw [← hA]; unfold freeZ; rw [if_pos (by rw [hz]; exact h0), hz]
    have hne : (z != 0) = true := bne_iff_ne.2 h0
    clear h0
    have H_h := Box.mk h
    have H_hz := Box.mk hz
    have H_hC := Box.mk hC
    have H_hH := Box.mk hH
    have H_hy := Box.mk hy
    have H_hA := Box.mk hA
    clear h hz hC hH hy hA
    subst he
    go_enter Try.func19, Try.ntmps19
    have hb0 := Below.refl w.heap.size w
    go_wp2_with fail
    with_reducible refine (H_hC.out _ (H_h.out.later (below_alloc2 _ _ _))).mono ?_
    rintro e w1 ⟨rfl, hc1⟩
    have hb1 : Below w.heap.size w w1 := bchain (by repeat' (first | with_reducible exact hb0 | with_reducible refine Below.drew ?_ | with_reducible refine below_drewN ?_ _ | with_reducible refine Below.alloc ?_ (by have := hb0.size; first | (simp; done) | (simp; omega) | omega) _ | with_reducible refine Below.setCell ?_ (by first | (simp; done) | (simp; omega) | omega) _)) hc1
    have O_0 : w1.cell? ⟨w.heap.size, 0, none⟩ = some (.int .i64 W) := (hc1.cell (p := ⟨w.heap.size, 0, none⟩) (by first | (simp; done) | (simp; omega))).trans (by first | (simp; done) | go_simp)
    have O_1 : w1.cell? ⟨w.heap.size, 1, none⟩ = some (.slice ra rn rc) := (hc1.cell (p := ⟨w.heap.size, 1, none⟩) (by first | (simp; done) | (simp; omega))).trans (by first | (simp; done) | go_simp)
    have O_2 : w1.cell? ⟨w.heap.size, 2, none⟩ = some (.slice qa qn qc) := (hc1.cell (p := ⟨w.heap.size, 2, none⟩) (by first | (simp; done) | (simp; omega))).trans (by first | (simp; done) | go_simp)
    have O_l : w.heap.size < w1.heap.size := Nat.lt_of_lt_of_le (by first | (simp; done) | (simp; omega)) hc1.size
    have R_0 : w1.cell? ⟨w.heap.size + 1, 0, none⟩ = some (.int .i64 0) := (hc1.cell (p := ⟨w.heap.size + 1, 0, none⟩) (by first | (simp; done) | (simp; omega))).trans (by first | (simp; done) | go_simp)
    have R_1 : w1.cell? ⟨w.heap.size + 1, 1, none⟩ = some (.slice none 0 0) := (hc1.cell (p := ⟨w.heap.size + 1, 1, none⟩) (by first | (simp; done) | (simp; omega))).trans (by first | (simp; done) | go_simp)
    have R_2 : w1.cell? ⟨w.heap.size + 1, 2, none⟩ = some (.slice none 0 0) := (hc1.cell (p := ⟨w.heap.size + 1, 2, none⟩) (by first | (simp; done) | (simp; omega))).trans (by first | (simp; done) | go_simp)
    have R_f0 : w1.frozen? ⟨w.heap.size + 1, 0, none⟩ = false := (hc1.frozen (p := ⟨w.heap.size + 1, 0, none⟩) (by first | (simp; done) | (simp; omega))).trans (by first | (simp; done) | go_simp)
    have R_f1 : w1.frozen? ⟨w.heap.size + 1, 1, none⟩ = false := (hc1.frozen (p := ⟨w.heap.size + 1, 1, none⟩) (by first | (simp; done) | (simp; omega))).trans (by first | (simp; done) | go_simp)
    have R_f2 : w1.frozen? ⟨w.heap.size + 1, 2, none⟩ = false := (hc1.frozen (p := ⟨w.heap.size + 1, 2, none⟩) (by first | (simp; done) | (simp; omega))).trans (by first | (simp; done) | go_simp)
    have R_l : w.heap.size + 1 < w1.heap.size := Nat.lt_of_lt_of_le (by first | (simp; done) | (simp; omega)) hc1.size
    clear hc1 hb0
    go_wp2_with fail
    with_reducible refine (H_hC.out _ (H_h.out.later hb1)).mono ?_
    rintro e w2 ⟨rfl, hc2⟩
    have hb2 : Below w.heap.size w w2 := bchain (by repeat' (first | with_reducible exact hb1 | with_reducible refine Below.drew ?_ | with_reducible refine below_drewN ?_ _ | with_reducible refine Below.alloc ?_ (by have := hb1.size; first | (simp; done) | (simp; omega) | omega) _ | with_reducible refine Below.setCell ?_ (by first | (simp; done) | (simp; omega) | omega) _)) hc2
    have hst2 : Below w1.heap.size w1 w2 := bchain (by repeat' (first | with_reducible exact Below.refl _ _ | with_reducible refine Below.drew ?_ | with_reducible refine below_drewN ?_ _ | with_reducible refine Below.alloc ?_ (by first | (simp; done) | (simp; omega) | omega) _ | with_reducible refine Below.setCell ?_ (by first | (simp; done) | (simp; omega) | omega) _)) hc2
    replace O_0 := cell_later hst2 O_0
    replace O_1 := cell_later hst2 O_1
    replace O_2 := cell_later hst2 O_2
    replace O_l := Nat.lt_of_lt_of_le O_l hst2.size
    replace R_0 := cell_later hst2 R_0
    replace R_1 := cell_later hst2 R_1
    replace R_2 := cell_later hst2 R_2
    replace R_f0 := frozen_later hst2 R_l R_f0
    replace R_f1 := frozen_later hst2 R_l R_f1
    replace R_f2 := frozen_later hst2 R_l R_f2
    replace R_l := Nat.lt_of_lt_of_le R_l hst2.size
    clear hst2
    clear hc2 hb1
    go_wp2_with fail
    exact bodyPost_ret (v := .tuple #[.agg #[.int .i64 0, .slice none 0 0, .slice none 0 0], .slice none 0 0, .int .i64 z]) (by simp [results, Try.results19, go_sem, *]) rfl ⟨none, 0, 0, none, 0, 0, none, 0, 0, rfl, .zero _ _ _, (by repeat' (first | with_reducible exact hb2 | with_reducible refine Below.drew ?_ | with_reducible refine below_drewN ?_ _ | with_reducible refine Below.alloc ?_ (by have := hb2.size; first | (simp; done) | (simp; omega) | omega) _ | with_reducible refine Below.setCell ?_ (by first | (simp; done) | (simp; omega) | omega) _))⟩

end Go.Proofs.Ytnkbbfeaodppgaa
