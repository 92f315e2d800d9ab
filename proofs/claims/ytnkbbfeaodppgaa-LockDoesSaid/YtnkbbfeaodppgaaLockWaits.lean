/- The package lock: waits, holds, twin. -/
import Derived.Test.YtnkbbfeaodppgaaLockWalks
namespace Go.Proofs.Ytnkbbfeaodppgaa
set_option linter.unusedSimpArgs false
set_option linter.unusedVariables false
set_option linter.unnecessarySimpa false
open Go.RowKit

theorem info_wait : (Try.prog.info? 34).map (fun i => (i.zero, i.size, i.bytes)) = some (some (.agg #[.int .i64 0, .bool false]), 2, 16) := by kernel_rfl

set_option maxHeartbeats 400000 in
theorem cloneW_any (a : Option Addr) (n c : Nat) (hs : Waits) (w : World) (hn : n = hs.length) (hc : CellsAt w a (celW hs)) (hb : hs.length ≤ 8796093022207) :
    Calls Try.prog 42 #[.slice a n c] w fun e w' =>
      ∃ a' c', e = .returned (.slice a' n c') ∧ OwnX w' w.heap.size 34 2 (.slice a' n c') n (celW hs) ∧ Below w.heap.size w w' := by
  have hq := fun (w : World) => Lib.run_eql_slice_nil w 23 34 a n c 0 0 Try.underlying23
  obtain ⟨i0, hi, hz0, hz1, hz2⟩ := info_parts info_wait
  cases a with
  | none =>
    have hx : hs = [] := by
      rcases hc with h | ⟨b, o, h, _⟩
      · have := celW_len hs; rw [h] at this; simp at this; exact List.eq_nil_of_length_eq_zero (by omega)
      · cases h
    subst hx
    simp only [List.length_nil] at hn
    subst hn
    go_enter Try.func42, Try.ntmps42
    have hb0 := Below.refl w.heap.size w
    go_wp2_with fail
    go_ret
    exact ⟨_, _, rfl, OwnX.nil _ _ _ _, hb0⟩
  | some ad =>
    have Hc := Box.mk hc
    clear hc
    subst hn
    go_enter Try.func42, Try.ntmps42
    have hb0 := Below.refl w.heap.size w
    go_wp2_with (at_builtin; refine stop ?_)
    refine Stop.go ?_
    refine wpList_append_x _ rfl _ _ 23 rfl w.heap.size 34 i0 (.agg #[.int .i64 0, .bool false]) 2 16 Try.underlying23 hi hz0 hz1 hz2 rfl (by decide) _ 0 [] rfl (OwnX.made _ [] _ _ 0 _ (Nat.le_refl _) (by simp [maxLen]) rfl) (some ad) hs.length c (celW hs) rfl (celW_len hs) (Hc.out.alloc _) (celW_one hs) (by unfold maxLen; omega) (by omega) (by simp) ?_
    intro a' c' w1 hown hg _
    rw [Nat.zero_add, List.nil_append] at hown
    go_wp2_with fail
    go_ret
    exact ⟨_, _, rfl, hown, below_grownX (hb0.alloc (Nat.le_refl _) _) hg (by simp) (fun k hk => ((OwnX.made w [] _ 0 0 2 (Nat.le_refl _) (by simp [maxLen]) rfl).lt k hk).1)⟩

/-- The closure in waits. -/
theorem waits1_any (t : Int) (b : Bool) (x : Int) (B : Nat) (w : World) (hB : B < w.heap.size) (hc : w.cell? ⟨B, 0, none⟩ = some (.int .i64 x)) :
    Calls Try.prog 47 #[.agg #[.int .i64 t, .bool b], .pointer (some ⟨B, 0, none⟩)] w fun e w' =>
      e = .returned (.bool (t == x)) ∧ Below w.heap.size w w' := by
  have hne : B ≠ w.heap.size := by omega
  go_enter Try.func47, Try.ntmps47
  have hb0 := Below.refl w.heap.size w
  go_wp2_with fail
  go_ret
  exact ⟨rfl, (by repeat' (first | with_reducible exact hb0 | with_reducible refine Below.drew ?_ | with_reducible refine below_drewN ?_ _ | with_reducible refine Below.alloc ?_ (by have := hb0.size; first | (simp; done) | (simp; omega) | omega) _ | with_reducible refine Below.setCell ?_ (by first | (simp; done) | (simp; omega) | omega) _))⟩

set_option maxHeartbeats 1000000 in
theorem idxW_any (t : Int) (hs : Waits) (a : Option Addr) (n c B : Nat) (w : World) (hn : n = hs.length) (hc : CellsAt w a (celW hs)) (hml : n ≤ maxLen) (hB : B < w.heap.size) (hc0 : w.cell? ⟨B, 0, none⟩ = some (.int .i64 t)) :
    Calls Try.prog 46 #[.slice a n c, .func (.func 47) #[] #[.pointer (some ⟨B, 0, none⟩)]] w fun e w' =>
      e = .returned (.int .i64 (idxW hs t)) ∧ Below w.heap.size w w' := by
  unfold maxLen at hml
  have hlm : n = (hs.map (·.1)).length := by rw [List.length_map]; exact hn
  have H_hn := Box.mk hn
  have H_hlm := Box.mk hlm
  clear hn hlm
  go_enter Try.func46, Try.ntmps46
  have hb0 := Below.refl w.heap.size w
  go_wp2_with fail
  go_loopw [8] (fun i wr => ∃ k : Nat, k ≤ n ∧ i = .int .i64 k ∧ Below w.heap.size w wr ∧ Box (∀ j, j < k → tk hs j ≠ t)) (fun i _ => n - (intOf i).toNat)
  case atStart => exact ⟨0, Nat.zero_le _, rfl, (by repeat' (first | with_reducible exact hb0 | with_reducible refine Below.drew ?_ | with_reducible refine below_drewN ?_ _ | with_reducible refine Below.alloc ?_ (by have := hb0.size; first | (simp; done) | (simp; omega) | omega) _ | with_reducible refine Below.setCell ?_ (by first | (simp; done) | (simp; omega) | omega) _)), Box.mk (fun j hj => by omega)⟩
  case round =>
    obtain ⟨k, hk, rfl, hbw, Hall⟩ := hrel
    by_cases hlt : k < n
    · have hlt' : (k : Int) < (n : Int) := by omega
      have hkl : k < hs.length := by have := H_hn.out; omega
      obtain ⟨b, oo, rfl, h1, h2, hcell⟩ := hc.waits (by omega)
      obtain ⟨c0, c1⟩ := hcell k hkl
      clear hcell
      replace c0 := cell_later hbw c0
      replace c1 := cell_later hbw c1
      have hB' := Nat.lt_of_lt_of_le hB hbw.size
      have hc0' := cell_later hbw hc0
      obtain ⟨x, hxx⟩ : ∃ x, tk hs k = x := ⟨_, rfl⟩
      obtain ⟨m, hmm⟩ : ∃ m, md hs k = m := ⟨_, rfl⟩
      rw [hxx] at c0; rw [hmm] at c1
      clear hc hc0 hB
      by_cases hxv : x = t
      · have he : idxW hs t = k := idxN_at (by have := H_hlm.out; omega) (by rw [tk_map, hxx]; exact hxv) (fun j hj => by rw [tk_map]; exact Hall.out j hj)
        have hp : (x == t) = true := beq_iff_eq.2 hxv
        clear hxv
        have H_he := Box.mk he
        have H_hxx := Box.mk hxx
        have H_hmm := Box.mk hmm
        have H_hkl := Box.mk hkl
        have H_hp := Box.mk hp
        clear he hxx hmm hkl hp
        clear Hall
        go_wp2_with fail
        with_reducible refine (waits1_any x m t B _ hB' hc0').mono ?_
        rintro e w11 ⟨rfl, hc11⟩
        have hb11 : Below w.heap.size w w11 := bchain (by repeat' (first | with_reducible exact hbw | with_reducible refine Below.drew ?_ | with_reducible refine below_drewN ?_ _ | with_reducible refine Below.alloc ?_ (by have := hbw.size; first | (simp; done) | (simp; omega) | omega) _ | with_reducible refine Below.setCell ?_ (by first | (simp; done) | (simp; omega) | omega) _)) hc11
        clear hc11 hbw
        rw [H_hp.out]
        go_wp2_with fail
        go_ret
        exact ⟨ret_int H_he.out.symm, (by repeat' (first | with_reducible exact hb11 | with_reducible refine Below.drew ?_ | with_reducible refine below_drewN ?_ _ | with_reducible refine Below.alloc ?_ (by have := hb11.size; first | (simp; done) | (simp; omega) | omega) _ | with_reducible refine Below.setCell ?_ (by first | (simp; done) | (simp; omega) | omega) _))⟩
      · have hp : (x == t) = false := beq_eq_false_iff_ne.2 hxv
        have hall : Box (∀ j, j < k + 1 → tk hs j ≠ t) := Box.mk fun j hj => by
          by_cases hjk : j < k
          · exact Hall.out j hjk
          · obtain rfl : j = k := by omega
            rw [hxx]; exact hxv
        clear hxv
        have H_hxx := Box.mk hxx
        have H_hmm := Box.mk hmm
        have H_hkl := Box.mk hkl
        have H_hp := Box.mk hp
        clear hxx hmm hkl hp
        clear Hall
        go_wp2_with fail
        with_reducible refine (waits1_any x m t B _ hB' hc0').mono ?_
        rintro e w11 ⟨rfl, hc11⟩
        have hb11 : Below w.heap.size w w11 := bchain (by repeat' (first | with_reducible exact hbw | with_reducible refine Below.drew ?_ | with_reducible refine below_drewN ?_ _ | with_reducible refine Below.alloc ?_ (by have := hbw.size; first | (simp; done) | (simp; omega) | omega) _ | with_reducible refine Below.setCell ?_ (by first | (simp; done) | (simp; omega) | omega) _)) hc11
        clear hc11 hbw
        rw [H_hp.out]
        go_wp2_with fail
        go_roundw
        case rel => exact ⟨k + 1, by omega, by go_num, (by repeat' (first | with_reducible exact hb11 | with_reducible refine Below.drew ?_ | with_reducible refine below_drewN ?_ _ | with_reducible refine Below.alloc ?_ (by have := hb11.size; first | (simp; done) | (simp; omega) | omega) _ | with_reducible refine Below.setCell ?_ (by first | (simp; done) | (simp; omega) | omega) _)), hall⟩
        case measure => simp [intOf]; omega
    · have hge : (n : Int) ≤ (k : Int) := by omega
      have he : idxW hs t = -1 := idxN_none fun j hj => by rw [tk_map]; exact Hall.out j (by have := H_hlm.out; omega)
      have H_he := Box.mk he
      clear he
      clear Hall
      go_wp2_with fail
      go_ret
      exact ⟨ret_int H_he.out.symm, (by repeat' (first | with_reducible exact hbw | with_reducible refine Below.drew ?_ | with_reducible refine below_drewN ?_ _ | with_reducible refine Below.alloc ?_ (by have := hbw.size; first | (simp; done) | (simp; omega) | omega) _ | with_reducible refine Below.setCell ?_ (by first | (simp; done) | (simp; omega) | omega) _))⟩

/-- A lock that came in. -/
structure LockIn (w : World) (rs : List Int) (q : Waits) (ra qa : Option Addr) (rn qn : Nat) : Prop where
  rlen : rn = rs.length
  qlen : qn = q.length
  rs : CellsAt w ra (rs.map (Value.int .i64))
  qs : CellsAt w qa (celW q)
  rmax : rn ≤ 1000000
  qmax : qn ≤ 1000000
theorem LockIn.later {w w' : World} {rs : List Int} {q : Waits} {ra qa : Option Addr} {rn qn : Nat} (h : LockIn w rs q ra qa rn qn) (hb : Below w.heap.size w w') : LockIn w' rs q ra qa rn qn := ⟨h.rlen, h.qlen, h.rs.later hb, h.qs.later hb, h.rmax, h.qmax⟩
theorem below_alloc (w : World) (o : Obj) : Below w.heap.size w (w.alloc o) := (Below.refl _ _).alloc (Nat.le_refl _) _
theorem below_alloc2 (w : World) (o p : Obj) : Below w.heap.size w ((w.alloc o).alloc p) := (below_alloc w o).alloc (by simp) _

set_option maxHeartbeats 1000000 in
theorem waits_any (W t : Int) (rs : List Int) (q : Waits) (ra qa : Option Addr) (rn rc qn qc : Nat) (w : World) (h : LockIn w rs q ra qa rn qn) :
    Calls Try.prog 35 #[.agg #[.int .i64 W, .slice ra rn rc, .slice qa qn qc], .int .i64 t] w fun e w' =>
      e = .returned (.int .i64 (idxW q t)) ∧ Below w.heap.size w w' := by
  obtain ⟨z, hz⟩ : ∃ z, idxW q t = z := ⟨_, rfl⟩
  have hqm := h.qmax
  rw [hz]
  have H_h := Box.mk h
  have H_hz := Box.mk hz
  clear h hz
  go_enter Try.func35, Try.ntmps35
  have hb0 := Below.refl w.heap.size w
  go_wp2_with fail
  with_reducible refine (idxW_any t q qa qn qc (w.heap.size + 1) _ H_h.out.qlen (H_h.out.later (below_alloc2 w _ _)).qs (by unfold maxLen; omega) (by simp) (by simp)).mono ?_
  rintro e w1 ⟨rfl, hc1⟩
  have hb1 : Below w.heap.size w w1 := bchain (by repeat' (first | with_reducible exact hb0 | with_reducible refine Below.drew ?_ | with_reducible refine below_drewN ?_ _ | with_reducible refine Below.alloc ?_ (by have := hb0.size; first | (simp; done) | (simp; omega) | omega) _ | with_reducible refine Below.setCell ?_ (by first | (simp; done) | (simp; omega) | omega) _)) hc1
  have O_0 : w1.cell? ⟨w.heap.size, 0, none⟩ = some (.int .i64 W) := (hc1.cell (p := ⟨w.heap.size, 0, none⟩) (by first | (simp; done) | (simp; omega))).trans (by first | (simp; done) | go_simp)
  have O_1 : w1.cell? ⟨w.heap.size, 1, none⟩ = some (.slice ra rn rc) := (hc1.cell (p := ⟨w.heap.size, 1, none⟩) (by first | (simp; done) | (simp; omega))).trans (by first | (simp; done) | go_simp)
  have O_2 : w1.cell? ⟨w.heap.size, 2, none⟩ = some (.slice qa qn qc) := (hc1.cell (p := ⟨w.heap.size, 2, none⟩) (by first | (simp; done) | (simp; omega))).trans (by first | (simp; done) | go_simp)
  have O_l : w.heap.size < w1.heap.size := Nat.lt_of_lt_of_le (by first | (simp; done) | (simp; omega)) hc1.size
  have T_0 : w1.cell? ⟨w.heap.size + 1, 0, none⟩ = some (.int .i64 t) := (hc1.cell (p := ⟨w.heap.size + 1, 0, none⟩) (by first | (simp; done) | (simp; omega))).trans (by first | (simp; done) | go_simp)
  have T_l : w.heap.size + 1 < w1.heap.size := Nat.lt_of_lt_of_le (by first | (simp; done) | (simp; omega)) hc1.size
  clear hc1 hb0
  rw [H_hz.out]
  go_wp2_with fail
  go_ret
  exact ⟨rfl, by repeat' (first | with_reducible exact hb1 | with_reducible refine Below.drew ?_ | with_reducible refine below_drewN ?_ _ | with_reducible refine Below.alloc ?_ (by have := hb1.size; first | (simp; done) | (simp; omega) | omega) _ | with_reducible refine Below.setCell ?_ (by first | (simp; done) | (simp; omega) | omega) _)⟩

end Go.Proofs.Ytnkbbfeaodppgaa
