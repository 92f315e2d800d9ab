/- The package lock: Ask, Free, Leave. -/
import Derived.Test.YtnkbbfeaodppgaaLockDelW
namespace Go.Proofs.Ytnkbbfeaodppgaa
set_option linter.unusedSimpArgs false
set_option linter.unusedVariables false
set_option linter.unnecessarySimpa false
open Go.RowKit

abbrev LkP := Int × List Int × Waits
def lkOf (r : GrR) : LkP := (r.1, r.2.1, r.2.2.1)
def lk0 : LkP := (0, [], [])
/-- What Ask returns. -/
def askZ (W : Int) (rs : List Int) (q : Waits) (t : Int) (b : Bool) : LkP × Bool × Int :=
  if bothZ W rs q t ≠ 0 then (lk0, false, bothZ W rs q t) else if hasZ W rs q t ≠ 0 then (lk0, false, 14) else (lkOf (grantP W rs (q ++ [(t, b)])), decide (0 < (grantP W rs (q ++ [(t, b)])).2.2.2.length), 0)
/-- What Free returns. -/
def freeZ (W : Int) (rs : List Int) (q : Waits) (t : Int) : LkP × List Int × Int :=
  if bothZ W rs q t ≠ 0 then (lk0, [], bothZ W rs q t) else if hasZ W rs q t < 1 then (lk0, [], 36) else
  if hasZ W rs q t = 2 then (lkOf (grantP (-1) rs q), (grantP (-1) rs q).2.2.2, 0) else (lkOf (grantP W (delL rs t) q), (grantP W (delL rs t) q).2.2.2, 0)
/-- What Leave returns. -/
def leaveZ (W : Int) (rs : List Int) (q : Waits) (t : Int) : LkP × List Int × Int :=
  if bothZ W rs q t ≠ 0 then (lk0, [], bothZ W rs q t) else if idxW q t < 0 then (lk0, [], 36) else
  (lkOf (grantP W rs (q.eraseIdx (idxW q t).toNat)), (grantP W rs (q.eraseIdx (idxW q t).toNat)).2.2.2, 0)
theorem LV.wq {W : Int} {rs : List Int} {q : Waits} (h : LV W rs q) : Wq rs q := by
  have hf := (fresh_spec q (seenL W rs)).1 h.hq
  refine ⟨rsOk_inc h.hr, fun w hw => ?_, hf.2⟩
  have := hf.1 w hw
  refine ⟨fun e => ?_, fun hm => this.2 ?_⟩
  · rw [e] at this; exact absurd this.1 (by decide)
  · unfold seenL; split
    · exact hm
    · exact List.mem_append_left _ hm
theorem both_LV {W : Int} {rs : List Int} {q : Waits} {t : Int} (h : bothZ W rs q t = 0) : LV W rs q ∧ taskB t = true := by
  unfold bothZ at h
  split at h
  · cases h
  · split at h
    · rename_i h1 h2
      exact ⟨LV.of ((lockErr_cases W rs q).resolve_left h1), h2⟩
    · cases h
theorem has_zero {W : Int} {rs : List Int} {q : Waits} {t : Int} (h : hasZ W rs q t = 0) : W ≠ t ∧ t ∉ rs ∧ t ∉ q.map (·.1) := by
  unfold hasZ at h
  split at h
  · cases h
  · split at h
    · cases h
    · split at h
      · cases h
      · rename_i h1 h2 h3
        exact ⟨h1, by simpa using h2, by simpa using h3⟩
theorem Wq.snoc {rs : List Int} {q : Waits} {t : Int} {b : Bool} (h : Wq rs q) (h1 : t ≠ -1) (h2 : t ∉ rs) (h3 : t ∉ q.map (·.1)) : Wq rs (q ++ [(t, b)]) := by
  refine ⟨h.inc, fun w hw => ?_, ?_⟩
  · rcases List.mem_append.1 hw with hw | hw
    · exact h.far w hw
    · obtain rfl := List.mem_singleton.1 hw
      exact ⟨h1, h2⟩
  · rw [List.map_append, List.nodup_append]
    exact ⟨h.nd, by simp, fun x hx y hy e => h3 (by simp at hy; rw [← hy, ← e]; exact hx)⟩

/-- A lock that is returned. -/
structure LockOut (N : Nat) (w : World) (z : LkP) (a1 : Option Addr) (n1 : Nat) (a2 : Option Addr) (n2 : Nat) : Prop where
  l : LockIn w z.2.1 z.2.2 a1 a2 n1 n2
  f1 : ∀ B, B < N → Far a1 B
  f2 : ∀ B, B < N → Far a2 B
theorem LockOut.zero (N : Nat) (w : World) : LockOut N w lk0 none 0 none 0 := ⟨⟨rfl, rfl, .inl rfl, .inl rfl, by omega, by omega⟩, fun _ _ _ e => (by cases e), fun _ _ _ e => (by cases e)⟩

/-- Behind the twin. -/
structure TwMid (w W : World) (base mb rb : Nat) (Wr : Int) (rs : List Int) (q : Waits) (a1 : Option Addr) (rn c1 : Nat) (a2 : Option Addr) (qn c2 : Nat) : Prop where
  hb : Below w.heap.size w W
  R : Blk W rb 25 [.int .i64 0, .slice none 0 0, .slice none 0 0]
  M : Blk W mb 25 [.int .i64 Wr, .slice a1 rn c1, .slice a2 qn c2]
  rs : OwnX W base 3 1 (.slice a1 rn c1) rn (rs.map (Value.int .i64))
  q : OwnX W base 34 2 (.slice a2 qn c2) qn (celW q)
  lt1 : ∀ ad, a1 = some ad → ad.block < mb
  lt2 : ∀ ad, a2 = some ad → ad.block < mb
  ne : ∀ ad bd, a1 = some ad → a2 = some bd → bd.block ≠ ad.block
  rb : rb < base
  bm : base ≤ mb

theorem OwnX.typed {w : World} {B B' e e' s s' n n' c c' m m' : Nat} {a a' : Option Addr} {xs ys : List Value} (h : OwnX w B e s (.slice a n c) m xs) (h' : OwnX w B' e' s' (.slice a' n' c') m' ys) (hne : e ≠ e') : ∀ ad bd, a = some ad → a' = some bd → bd.block ≠ ad.block := fun ad bd e1 e2 => by
  subst e1 e2
  rcases h.2 with ⟨h0, _⟩ | ⟨g, _, cur, hv, _, hb, _⟩
  · cases h0
  rcases h'.2 with ⟨h0, _⟩ | ⟨g', _, cur', hv', _, hb', _⟩
  · cases h0
  cases hv; cases hv'
  intro e
  simp only at e
  subst e
  rw [hb] at hb'
  injection hb' with e3
  injection e3 with _ e4
  exact hne e4

theorem Blk.cellsAt {w : World} {B t : Nat} {cs : List Value} (h : Blk w B t cs) : CellsAt w (some ⟨B, 0, none⟩) cs := .inr ⟨B, 0, rfl, fun j u hj => by rw [Nat.zero_add]; exact h.cell hj⟩
theorem CellsAt.far3 {w : World} {a : Option Addr} {cs : List Value} (h : CellsAt w a cs) {B : Nat} (hf : Far a B) {x y z : Value} : CellsAt (((w.setCell ⟨B, 0, none⟩ x).setCell ⟨B, 1, none⟩ y).setCell ⟨B, 2, none⟩ z) a cs :=
  ((h.setFarG (p := ⟨B, 0, none⟩) hf _).setFarG (p := ⟨B, 1, none⟩) hf _).setFarG (p := ⟨B, 2, none⟩) hf _
theorem own_not {a : Option Addr} {n c B : Nat} (h : ∀ ad, a = some ad → ad.block ≠ B) : some B ≠ (Value.slice a n c).ownBlock := fun e => by
  cases a with
  | none => cases e
  | some bd => exact h bd rfl (by simpa [Value.ownBlock] using e.symm)

set_option maxRecDepth 100000 in
set_option maxHeartbeats 2000000 in
theorem Ask_any (W t : Int) (b : Bool) (rs : List Int) (q : Waits) (ra qa : Option Addr) (rn rc qn qc : Nat) (w : World) (h : LockIn w rs q ra qa rn qn) (hmx : rn + qn ≤ 999999) :
    Calls Try.prog 15 #[.agg #[.int .i64 W, .slice ra rn rc, .slice qa qn qc], .int .i64 t, .bool b] w fun e w' =>
      ∃ a1 n1 c1 a2 n2 c2, e = .returned (.tuple #[.agg #[.int .i64 (askZ W rs q t b).1.1, .slice a1 n1 c1, .slice a2 n2 c2], .bool (askZ W rs q t b).2.1, .int .i64 (askZ W rs q t b).2.2]) ∧ LockOut w.heap.size w' (askZ W rs q t b).1 a1 n1 a2 n2 ∧ Below w.heap.size w w' := by
  obtain ⟨i0, hi, hz0, hz1, hz2⟩ := info_parts info_i64
  obtain ⟨j0, hj, hy0, hy1, hy2⟩ := info_parts info_wait
  have hrm := h.rmax
  have hqm := h.qmax
  have hC := fun W' h => checkT_any W t rs q ra qa rn rc qn qc W' h
  have hH := fun W' h => holds_any W t rs q ra qa rn rc qn qc W' h
  obtain ⟨z, hz⟩ : ∃ z, bothZ W rs q t = z := ⟨_, rfl⟩
  obtain ⟨y, hy⟩ : ∃ y, hasZ W rs q t = y := ⟨_, rfl⟩
  obtain ⟨A, hA⟩ : ∃ A, askZ W rs q t b = A := ⟨_, rfl⟩
  rw [hz] at hC
  rw [hy] at hH
  rw [hA]
  by_cases h0 : z = 0
  · by_cases h1 : y = 0
    · have hLV := both_LV (hz.trans h0)
      have hh := has_zero (hy.trans h1)
      have hwq := hLV.1.wq.snoc (b := b) (fun e => by rw [e] at hLV; exact absurd hLV.2 (by decide)) hh.2.1 hh.2.2
      have he : A = (lkOf (grantP W rs (q ++ [(t, b)])), decide (0 < (grantP W rs (q ++ [(t, b)])).2.2.2.length), 0) := by
        rw [← hA]; unfold askZ; rw [if_neg (by rw [hz]; simpa using h0), if_neg (by rw [hy]; simpa using h1)]
      obtain ⟨res, hres⟩ : ∃ res, grantP W rs (q ++ [(t, b)]) = res := ⟨_, rfl⟩
      rw [hres] at he
      rw [h0] at hC
      rw [h1] at hH
      clear hLV hh h0 h1
      have H_h := Box.mk h
      have H_he := Box.mk he
      have H_hz := Box.mk hz
      have H_hC := Box.mk hC
      have H_hH := Box.mk hH
      have H_hy := Box.mk hy
      have H_hA := Box.mk hA
      have H_hwq := Box.mk hwq
      have H_hres := Box.mk hres
      clear h he hz hC hH hy hA hwq hres
      go_enter Try.func15, Try.ntmps15
      have hb0 := Below.refl w.heap.size w
      go_wp2_with fail
      with_reducible refine (H_hC.out _ (H_h.out.later (below_alloc2 _ _ _))).mono ?_
      rintro e w1 ⟨rfl, hc1⟩
      have R1 : Blk w1 (w.heap.size + 1) 25 [.int .i64 0, .slice none 0 0, .slice none 0 0] := Blk.later (Blk.newA _ _ _ _ [.int .i64 0, .slice none 0 0, .slice none 0 0] (by simp) (by rfl)) hc1
      have hb1 : Below w.heap.size w w1 := bchain (by repeat' (first | with_reducible exact hb0 | with_reducible refine Below.drew ?_ | with_reducible refine below_drewN ?_ _ | with_reducible refine Below.alloc ?_ (by have := hb0.size; first | (simp; done) | (simp; omega) | omega) _ | with_reducible refine Below.setCell ?_ (by first | (simp; done) | (simp; omega) | omega) _)) hc1
      have O_0 : w1.cell? ⟨w.heap.size, 0, none⟩ = some (.int .i64 W) := (hc1.cell (p := ⟨w.heap.size, 0, none⟩) (by first | (simp; done) | (simp; omega))).trans (by first | (simp; done) | go_simp)
      have O_1 : w1.cell? ⟨w.heap.size, 1, none⟩ = some (.slice ra rn rc) := (hc1.cell (p := ⟨w.heap.size, 1, none⟩) (by first | (simp; done) | (simp; omega))).trans (by first | (simp; done) | go_simp)
      have O_2 : w1.cell? ⟨w.heap.size, 2, none⟩ = some (.slice qa qn qc) := (hc1.cell (p := ⟨w.heap.size, 2, none⟩) (by first | (simp; done) | (simp; omega))).trans (by first | (simp; done) | go_simp)
      have O_l : w.heap.size < w1.heap.size := Nat.lt_of_lt_of_le (by first | (simp; done) | (simp; omega)) hc1.size
      have R_0 : w1.cell? ⟨w.heap.size + 1, 0, none⟩ = some (.int .i64 0) := (hc1.cell (p := ⟨w.heap.size + 1, 0, none⟩) (by first | (simp; done) | (simp; omega))).trans (by first | (simp; done) | go_simp)
      have R_1 : w1.cell? ⟨w.heap.size + 1, 1, none⟩ = some (.slice none 0 0) := (hc1.cell (p := ⟨w.heap.size + 1, 1, none⟩) (by first | (simp; done) | (simp; omega))).trans (by first | (simp; done) | go_simp)
      have R_2 : w1.cell? ⟨w.heap.size + 1, 2, none⟩ = some (.slice none 0 0) := (hc1.cell (p := ⟨w.heap.size + 1, 2, none⟩) (by first | (simp; done) | (simp; omega))).trans (by first | (simp; done) | go_simp)
      have R_f0 : w1.frozen? ⟨w.heap.size + 1, 0, none⟩ = false := (hc1.frozen (p := ⟨w.heap.size + 1, 0, none⟩) (by first | (simp; done) | (simp; omega))).trans (by first | (simp; done) | go_simp)
      have R_f1 : w1.frozen? ⟨w.heap.size + 1, 1, none⟩ = false := (hc1.frozen (p := ⟨w.heap.size + 1, 1, none⟩) (by first | (simp; done) | (simp; omega))).trans (by first | (simp; done) | go_simp)
      have R_f2 : w1.frozen? ⟨w.heap.size + 1, 2, none⟩ = false := (hc1.frozen (p := ⟨w.heap.size + 1, 2, none⟩) (by first | (simp; done) | (simp; omega))).trans (by first | (simp; done) | go_simp)
      have R_l : w.heap.size + 1 < w1.heap.size := Nat.lt_of_lt_of_le (by first | (simp; done) | (simp; omega)) hc1.size
      clear hc1
      go_wp2_with fail
      with_reducible refine (H_hH.out _ (H_h.out.later hb1)).mono ?_
      rintro e w2 ⟨rfl, hc2⟩
      have hb2 : Below w.heap.size w w2 := bchain (by repeat' (first | with_reducible exact hb1 | with_reducible refine Below.drew ?_ | with_reducible refine below_drewN ?_ _ | with_reducible refine Below.alloc ?_ (by have := hb1.size; first | (simp; done) | (simp; omega) | omega) _ | with_reducible refine Below.setCell ?_ (by first | (simp; done) | (simp; omega) | omega) _)) hc2
      have hst2 : Below w1.heap.size w1 w2 := bchain (by repeat' (first | with_reducible exact Below.refl _ _ | with_reducible refine Below.drew ?_ | with_reducible refine below_drewN ?_ _ | with_reducible refine Below.alloc ?_ (by first | (simp; done) | (simp; omega) | omega) _ | with_reducible refine Below.setCell ?_ (by first | (simp; done) | (simp; omega) | omega) _)) hc2
      replace O_0 := cell_later hst2 O_0
      replace O_1 := cell_later hst2 O_1
      replace O_2 := cell_later hst2 O_2
      replace O_l := Nat.lt_of_lt_of_le O_l hst2.size
      replace R_0 := cell_later hst2 R_0
      replace R_1 := cell_later hst2 R_1
      replace R_2 := cell_later hst2 R_2
      replace R_f0 := frozen_later hst2 R_l R_f0
      replace R_f1 := frozen_later hst2 R_l R_f1
      replace R_f2 := frozen_later hst2 R_l R_f2
      replace R_l := Nat.lt_of_lt_of_le R_l hst2.size
      replace R1 := R1.later hst2
      clear hst2
      clear hc2 hb1
      have hR2 := R1.lt
      go_wp2_with fail
      with_reducible refine (twin_any W rs q ra qa rn rc qn qc _ (H_h.out.later hb2)).mono ?_
      rintro e w3 ⟨a1, c1, a2, c2, rfl, o3, hc3⟩
      have hz3 := hc3.size
      have hb3 : Below w.heap.size w w3 := bchain (by repeat' (first | with_reducible exact hb2 | with_reducible refine Below.drew ?_ | with_reducible refine below_drewN ?_ _ | with_reducible refine Below.alloc ?_ (by have := hb2.size; first | (simp; done) | (simp; omega) | omega) _ | with_reducible refine Below.setCell ?_ (by first | (simp; done) | (simp; omega) | omega) _)) hc3
      have hst3 : Below w2.heap.size w2 w3 := bchain (by repeat' (first | with_reducible exact Below.refl _ _ | with_reducible refine Below.drew ?_ | with_reducible refine below_drewN ?_ _ | with_reducible refine Below.alloc ?_ (by first | (simp; done) | (simp; omega) | omega) _ | with_reducible refine Below.setCell ?_ (by first | (simp; done) | (simp; omega) | omega) _)) hc3
      replace O_0 := cell_later hst3 O_0
      replace O_1 := cell_later hst3 O_1
      replace O_2 := cell_later hst3 O_2
      replace O_l := Nat.lt_of_lt_of_le O_l hst3.size
      replace R_0 := cell_later hst3 R_0
      replace R_1 := cell_later hst3 R_1
      replace R_2 := cell_later hst3 R_2
      replace R_f0 := frozen_later hst3 R_l R_f0
      replace R_f1 := frozen_later hst3 R_l R_f1
      replace R_f2 := frozen_later hst3 R_l R_f2
      replace R_l := Nat.lt_of_lt_of_le R_l hst3.size
      replace R1 := R1.later hst3
      clear hst3
      clear hc3
      go_upto_region 7 with (fail)
      refine wp_facts (fun Wx => TwMid w Wx w2.heap.size w3.heap.size (w.heap.size + 1) W rs q a1 rn c1 a2 qn c2) ⟨(by repeat' (first | with_reducible exact hb3 | with_reducible refine Below.drew ?_ | with_reducible refine below_drewN ?_ _ | with_reducible refine Below.alloc ?_ (by have := hb3.size; first | (simp; done) | (simp; omega) | omega) _ | with_reducible refine Below.setCell ?_ (by first | (simp; done) | (simp; omega) | omega) _)), R1.alloc _, Blk.new _ _ _ _ rfl, o3.rs.alloc _, o3.qs.alloc _, fun ad e => (o3.rs.addr ad e).2, fun ad e => (o3.qs.addr ad e).2, o3.rs.typed o3.qs (by decide), hR2, hz3⟩ ?_
      intro w4 hT
      clear hR2 hz3 R1 o3 O_0 O_1 O_2 O_l R_0 R_1 R_2 R_f0 R_f1 R_f2 R_l
      generalize w2.heap.size = base at *
      generalize w3.heap.size = mb at *
      obtain ⟨hb4, R4, M4, rs4, q4, lt1, lt2, hne4, hrb, hbm⟩ := hT
      obtain ⟨M_0, M_1, M_2, M_f0, M_f1, M_f2, M_l⟩ := blk3 M4
      go_wp2_with (at_builtin; refine stop ?_)
      refine Stop.go ?_
      refine wpList_append_x _ rfl _ _ 23 rfl base 34 j0 (.agg #[.int .i64 0, .bool false]) 2 16 Try.underlying23 hj hy0 hy1 hy2 rfl (by decide) (.slice a2 qn c2) qn _ rfl (q4.alloc _) (some ⟨w4.heap.size, 0, none⟩) 1 1 [.int .i64 t, .bool b] rfl rfl (Blk.cellsAt (Blk.new _ _ [.int .i64 t, .bool b] _ rfl)) (celW_one [(t, b)]) (by unfold maxLen; omega) (by omega) (by simp; omega) ?_
      intro a5 c5 w5 o5 hg hk5
      have q_lo := q4.addr
      have R5 := blk_grown (R4.alloc _) hg (own_not fun ad e => by have := (q_lo ad e).1; omega)
      have M5 := blk_grown (M4.alloc _) hg (own_not fun ad e => by have := lt2 ad e; omega)
      have rs5 := (rs4.alloc _).kept hg (by
        cases a1 with
        | none => exact .inl rfl
        | some ad =>
          right
          exact own_not fun bd e => hne4 ad bd rfl e)
      have hb5 : Below w.heap.size w w5 := below_grownX (hb4.alloc (by have := hb4.size; omega) _) hg (by have := hb4.size; simp; omega) (fun k h => by have := (q4.lt k h).1; omega)
      have o5' : OwnX w5 base 34 2 (.slice a5 (qn + 1) c5) (qn + 1) (celW (q ++ [(t, b)])) := by rw [celW_append]; exact o5
      have z5 : w4.heap.size + 1 ≤ w5.heap.size := by have := hg.size; simpa using this
      have a5m : ∀ ad, a5 = some ad → ad.block ≠ mb := fun ad e => by
        subst e
        rcases hk5 ad.block rfl with h | h
        · cases a2 with
          | none => cases h
          | some cd =>
            have h1 : cd.block = ad.block := by simpa [Value.ownBlock] using h
            have := lt2 cd rfl
            omega
        · simp at h; omega
      have hnc5 : qn + 1 ≤ c5 := by obtain ⟨_, _, e0, h0, _⟩ := o5'.cells; cases e0; exact h0
      have hq5l : qn + 1 = (q ++ [(t, b)]).length := by rw [List.length_append, ← H_h.out.qlen]; rfl
      have a5l := o5'.addr
      have hbsz : base ≤ w5.heap.size := by omega
      have H_hq5l := Box.mk hq5l
      clear hq5l
      clear hg hk5 o5 R4 M4 rs4 q4 M_0 M_1 M_2 M_f0 M_f1 M_f2 M_l q_lo
      obtain ⟨M_0, M_1, M_2, M_f0, M_f1, M_f2, M_l⟩ := blk3 M5
      go_wp2_with fail
      refine (grant_any W rs (q ++ [(t, b)]) a1 a5 rn c1 (qn + 1) c5 base _ (by simpa using hbsz) (rs5.setFar (Ne.symm (own_not fun ad e => Nat.ne_of_lt (lt1 ad e))) _) (o5'.cellsAt.setFarG a5m _) H_hq5l.out (fun ad e => by have := (a5l ad e).2; simpa using this) hnc5 (by omega) H_hwq.out).mono ?_
      rw [H_hres.out]
      rintro e w6 ⟨b1, n1, d1, b2, n2, d2, b3, n3, d3, rfl, hG, hcap, hc6⟩
      have R6 := Blk.later (R5.setFar (p := ⟨mb, 2, none⟩) (by simp; omega) (.slice a5 (qn + 1) c5)) hc6
      have M6 := Blk.later (M5.set 2 (.slice a5 (qn + 1) c5)) hc6
      have hwm : w.heap.size ≤ mb := by omega
      have hb6 : Below w.heap.size w w6 := bchain (hb5.setCell hwm _) hc6
      have a5lo := a5l
      have a1lo := rs5.addr
      have w5m := M5.lt
      have w5r := R5.lt
      clear R5 M5 rs5 o5' a5l M_0 M_1 M_2 M_f0 M_f1 M_f2 M_l hc6
      obtain ⟨M_0, M_1, M_2, M_f0, M_f1, M_f2, M_l⟩ := blk3 M6
      obtain ⟨R_0, R_1, R_2, R_f0, R_f1, R_f2, R_l⟩ := blk3 R6
      have hl := hG.l
      have holen := hG.olen
      have hRM : ¬ (w.heap.size + 1 = mb) := by omega
      have hMR : ¬ (mb = w.heap.size + 1) := by omega
      have f1 : Far a1 mb := fun ad e => Nat.ne_of_lt (lt1 ad e)
      have f2 : Far a1 (w.heap.size + 1) := fun ad e => by have := (a1lo ad e).1; omega
      have f3 : Far a5 (w.heap.size + 1) := fun ad e => by have := (a5lo ad e).1; omega
      have g1 := hG.fr mb (by simp; omega) f1
      have g2 := hG.fr _ (by simp; omega) f2
      have g3 := hG.fq mb a5m
      have g4 := hG.fq _ f3
      go_wp2_with fail
      refine bodyPost_ret (v := .tuple #[.agg #[.int .i64 res.1, .slice b1 n1 d1, .slice b2 n2 d2], .bool (decide (0 < res.2.2.2.length)), .int .i64 0]) (by simp [results, Try.results15, go_sem, *]) rfl ⟨b1, n1, d1, b2, n2, d2, by rw [H_he.out]; rfl, ?_, ?_⟩
      · rw [H_he.out]
        exact ⟨⟨hl.rlen, hl.qlen, (hl.rs.far3 g1).far3 g2, (hl.qs.far3 g3).far3 g4, hl.rmax, hl.qmax⟩, fun B hB => hG.fr B (by simp; omega) (fun ad e => by have := (a1lo ad e).1; omega), fun B hB => hG.fq B (fun ad e => by have := (a5lo ad e).1; omega)⟩
      · repeat' (first | with_reducible exact hb6 | with_reducible refine Below.setCell ?_ (by first | (simp; done) | (simp; omega) | omega) _)
    · have he : A = (lk0, false, 14) := by
        rw [← hA]; unfold askZ; rw [if_neg (by rw [hz]; simpa using h0), if_pos (by rw [hy]; exact h1)]
      have hne : (y != 0) = true := bne_iff_ne.2 h1
      rw [h0] at hC
      clear h0 h1
      have H_h := Box.mk h
      have H_hz := Box.mk hz
      have H_hC := Box.mk hC
      have H_hH := Box.mk hH
      have H_hy := Box.mk hy
      have H_hA := Box.mk hA
      clear h hz hC hH hy hA
      subst he
      go_enter Try.func15, Try.ntmps15
      have hb0 := Below.refl w.heap.size w
      go_wp2_with fail
      with_reducible refine (H_hC.out _ (H_h.out.later (below_alloc2 _ _ _))).mono ?_
      rintro e w1 ⟨rfl, hc1⟩
      have hb1 : Below w.heap.size w w1 := bchain (by repeat' (first | with_reducible exact hb0 | with_reducible refine Below.drew ?_ | with_reducible refine below_drewN ?_ _ | with_reducible refine Below.alloc ?_ (by have := hb0.size; first | (simp; done) | (simp; omega) | omega) _ | with_reducible refine Below.setCell ?_ (by first | (simp; done) | (simp; omega) | omega) _)) hc1
      have O_0 : w1.cell? ⟨w.heap.size, 0, none⟩ = some (.int .i64 W) := (hc1.cell (p := ⟨w.heap.size, 0, none⟩) (by first | (simp; done) | (simp; omega))).trans (by first | (simp; done) | go_simp)
      have O_1 : w1.cell? ⟨w.heap.size, 1, none⟩ = some (.slice ra rn rc) := (hc1.cell (p := ⟨w.heap.size, 1, none⟩) (by first | (simp; done) | (simp; omega))).trans (by first | (simp; done) | go_simp)
      have O_2 : w1.cell? ⟨w.heap.size, 2, none⟩ = some (.slice qa qn qc) := (hc1.cell (p := ⟨w.heap.size, 2, none⟩) (by first | (simp; done) | (simp; omega))).trans (by first | (simp; done) | go_simp)
      have O_l : w.heap.size < w1.heap.size := Nat.lt_of_lt_of_le (by first | (simp; done) | (simp; omega)) hc1.size
      have R_0 : w1.cell? ⟨w.heap.size + 1, 0, none⟩ = some (.int .i64 0) := (hc1.cell (p := ⟨w.heap.size + 1, 0, none⟩) (by first | (simp; done) | (simp; omega))).trans (by first | (simp; done) | go_simp)
      have R_1 : w1.cell? ⟨w.heap.size + 1, 1, none⟩ = some (.slice none 0 0) := (hc1.cell (p := ⟨w.heap.size + 1, 1, none⟩) (by first | (simp; done) | (simp; omega))).trans (by first | (simp; done) | go_simp)
      have R_2 : w1.cell? ⟨w.heap.size + 1, 2, none⟩ = some (.slice none 0 0) := (hc1.cell (p := ⟨w.heap.size + 1, 2, none⟩) (by first | (simp; done) | (simp; omega))).trans (by first | (simp; done) | go_simp)
      have R_f0 : w1.frozen? ⟨w.heap.size + 1, 0, none⟩ = false := (hc1.frozen (p := ⟨w.heap.size + 1, 0, none⟩) (by first | (simp; done) | (simp; omega))).trans (by first | (simp; done) | go_simp)
      have R_f1 : w1.frozen? ⟨w.heap.size + 1, 1, none⟩ = false := (hc1.frozen (p := ⟨w.heap.size + 1, 1, none⟩) (by first | (simp; done) | (simp; omega))).trans (by first | (simp; done) | go_simp)
      have R_f2 : w1.frozen? ⟨w.heap.size + 1, 2, none⟩ = false := (hc1.frozen (p := ⟨w.heap.size + 1, 2, none⟩) (by first | (simp; done) | (simp; omega))).trans (by first | (simp; done) | go_simp)
      have R_l : w.heap.size + 1 < w1.heap.size := Nat.lt_of_lt_of_le (by first | (simp; done) | (simp; omega)) hc1.size
      clear hc1 hb0
      go_wp2_with fail
      with_reducible refine (H_hH.out _ (H_h.out.later hb1)).mono ?_
      rintro e w2 ⟨rfl, hc2⟩
      have hb2 : Below w.heap.size w w2 := bchain (by repeat' (first | with_reducible exact hb1 | with_reducible refine Below.drew ?_ | with_reducible refine below_drewN ?_ _ | with_reducible refine Below.alloc ?_ (by have := hb1.size; first | (simp; done) | (simp; omega) | omega) _ | with_reducible refine Below.setCell ?_ (by first | (simp; done) | (simp; omega) | omega) _)) hc2
      have hst2 : Below w1.heap.size w1 w2 := bchain (by repeat' (first | with_reducible exact Below.refl _ _ | with_reducible refine Below.drew ?_ | with_reducible refine below_drewN ?_ _ | with_reducible refine Below.alloc ?_ (by first | (simp; done) | (simp; omega) | omega) _ | with_reducible refine Below.setCell ?_ (by first | (simp; done) | (simp; omega) | omega) _)) hc2
      replace O_0 := cell_later hst2 O_0
      replace O_1 := cell_later hst2 O_1
      replace O_2 := cell_later hst2 O_2
      replace O_l := Nat.lt_of_lt_of_le O_l hst2.size
      replace R_0 := cell_later hst2 R_0
      replace R_1 := cell_later hst2 R_1
      replace R_2 := cell_later hst2 R_2
      replace R_f0 := frozen_later hst2 R_l R_f0
      replace R_f1 := frozen_later hst2 R_l R_f1
      replace R_f2 := frozen_later hst2 R_l R_f2
      replace R_l := Nat.lt_of_lt_of_le R_l hst2.size
      clear hst2
      clear hc2 hb1
      go_wp2_with fail
      exact bodyPost_ret (v := .tuple #[.agg #[.int .i64 0, .slice none 0 0, .slice none 0 0], .bool false, .int .i64 14]) (by simp [results, Try.results15, go_sem, *]) rfl ⟨none, 0, 0, none, 0, 0, rfl, .zero _ _, (by repeat' (first | with_reducible exact hb2 | with_reducible refine Below.drew ?_ | with_reducible refine below_drewN ?_ _ | with_reducible refine Below.alloc ?_ (by have := hb2.size; first | (simp; done) | (simp; omega) | omega) _ | with_reducible refine Below.setCell ?_ (by first | (simp; done) | (simp; omega) | omega) _))⟩
  · have he : A = (lk0, false, z) := by
      rw [← hA]; unfold askZ; rw [if_pos (by rw [hz]; exact h0), hz]
    have hne : (z != 0) = true := bne_iff_ne.2 h0
    clear h0
    have H_h := Box.mk h
    have H_hz := Box.mk hz
    have H_hC := Box.mk hC
    have H_hH := Box.mk hH
    have H_hy := Box.mk hy
    have H_hA := Box.mk hA
    clear h hz hC hH hy hA
    subst he
    go_enter Try.func15, Try.ntmps15
    have hb0 := Below.refl w.heap.size w
    go_wp2_with fail
    with_reducible refine (H_hC.out _ (H_h.out.later (below_alloc2 _ _ _))).mono ?_
    rintro e w1 ⟨rfl, hc1⟩
    have hb1 : Below w.heap.size w w1 := bchain (by repeat' (first | with_reducible exact hb0 | with_reducible refine Below.drew ?_ | with_reducible refine below_drewN ?_ _ | with_reducible refine Below.alloc ?_ (by have := hb0.size; first | (simp; done) | (simp; omega) | omega) _ | with_reducible refine Below.setCell ?_ (by first | (simp; done) | (simp; omega) | omega) _)) hc1
    have O_0 : w1.cell? ⟨w.heap.size, 0, none⟩ = some (.int .i64 W) := (hc1.cell (p := ⟨w.heap.size, 0, none⟩) (by first | (simp; done) | (simp; omega))).trans (by first | (simp; done) | go_simp)
    have O_1 : w1.cell? ⟨w.heap.size, 1, none⟩ = some (.slice ra rn rc) := (hc1.cell (p := ⟨w.heap.size, 1, none⟩) (by first | (simp; done) | (simp; omega))).trans (by first | (simp; done) | go_simp)
    have O_2 : w1.cell? ⟨w.heap.size, 2, none⟩ = some (.slice qa qn qc) := (hc1.cell (p := ⟨w.heap.size, 2, none⟩) (by first | (simp; done) | (simp; omega))).trans (by first | (simp; done) | go_simp)
    have O_l : w.heap.size < w1.heap.size := Nat.lt_of_lt_of_le (by first | (simp; done) | (simp; omega)) hc1.size
    have R_0 : w1.cell? ⟨w.heap.size + 1, 0, none⟩ = some (.int .i64 0) := (hc1.cell (p := ⟨w.heap.size + 1, 0, none⟩) (by first | (simp; done) | (simp; omega))).trans (by first | (simp; done) | go_simp)
    have R_1 : w1.cell? ⟨w.heap.size + 1, 1, none⟩ = some (.slice none 0 0) := (hc1.cell (p := ⟨w.heap.size + 1, 1, none⟩) (by first | (simp; done) | (simp; omega))).trans (by first | (simp; done) | go_simp)
    have R_2 : w1.cell? ⟨w.heap.size + 1, 2, none⟩ = some (.slice none 0 0) := (hc1.cell (p := ⟨w.heap.size + 1, 2, none⟩) (by first | (simp; done) | (simp; omega))).trans (by first | (simp; done) | go_simp)
    have R_f0 : w1.frozen? ⟨w.heap.size + 1, 0, none⟩ = false := (hc1.frozen (p := ⟨w.heap.size + 1, 0, none⟩) (by first | (simp; done) | (simp; omega))).trans (by first | (simp; done) | go_simp)
    have R_f1 : w1.frozen? ⟨w.heap.size + 1, 1, none⟩ = false := (hc1.frozen (p := ⟨w.heap.size + 1, 1, none⟩) (by first | (simp; done) | (simp; omega))).trans (by first | (simp; done) | go_simp)
    have R_f2 : w1.frozen? ⟨w.heap.size + 1, 2, none⟩ = false := (hc1.frozen (p := ⟨w.heap.size + 1, 2, none⟩) (by first | (simp; done) | (simp; omega))).trans (by first | (simp; done) | go_simp)
    have R_l : w.heap.size + 1 < w1.heap.size := Nat.lt_of_lt_of_le (by first | (simp; done) | (simp; omega)) hc1.size
    clear hc1 hb0
    go_wp2_with fail
    exact bodyPost_ret (v := .tuple #[.agg #[.int .i64 0, .slice none 0 0, .slice none 0 0], .bool false, .int .i64 z]) (by simp [results, Try.results15, go_sem, *]) rfl ⟨none, 0, 0, none, 0, 0, rfl, .zero _ _, (by repeat' (first | with_reducible exact hb1 | with_reducible refine Below.drew ?_ | with_reducible refine below_drewN ?_ _ | with_reducible refine Below.alloc ?_ (by have := hb1.size; first | (simp; done) | (simp; omega) | omega) _ | with_reducible refine Below.setCell ?_ (by first | (simp; done) | (simp; omega) | omega) _))⟩

end Go.Proofs.Ytnkbbfeaodppgaa
