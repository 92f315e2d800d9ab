/- slices.DeleteFunc at []int with the closure of Free: one element goes. -/
import Derived.Test.YtnkbbfeaodppgaaLockGrant
import Derived.Lib.SliceRun
namespace Go.Proofs.Ytnkbbfeaodppgaa
set_option linter.unusedSimpArgs false
set_option linter.unusedVariables false
set_option linter.unnecessarySimpa false
open Go.RowKit

/-- The readers without one. -/
def delL (rs : List Int) (t : Int) : List Int := rs.filter (· != t)
theorem delL_at {t : Int} : ∀ (rs : List Int) (i : Nat), rs.Pairwise (· < ·) → rs[i]? = some t → delL rs t = rs.eraseIdx i
  | [], i, _, h => by simp at h
  | x :: r, 0, hp, h => by
    have hx : x = t := by simpa using h
    subst hx
    unfold delL
    rw [List.filter_cons_of_neg (by simp), List.eraseIdx_cons_zero, List.filter_eq_self]
    intro y hy
    have := (List.pairwise_cons.1 hp).1 y hy
    simp; omega
  | x :: r, i + 1, hp, h => by
    have hr : r[i]? = some t := by simpa using h
    have := (List.pairwise_cons.1 hp).1 t (List.mem_of_getElem? hr)
    unfold delL
    rw [List.filter_cons_of_pos (by simp; omega), List.eraseIdx_cons_succ]
    exact congrArg (x :: ·) (delL_at r i (List.pairwise_cons.1 hp).2 hr)
theorem delL_mem {rs : List Int} {t y : Int} : y ∈ delL rs t ↔ y ∈ rs ∧ y ≠ t := by simp [delL]
theorem delL_inc {rs : List Int} {t : Int} (h : rs.Pairwise (· < ·)) : (delL rs t).Pairwise (· < ·) := h.filter _
theorem idxN_mem {xs : List Int} {v : Int} (h : v ∈ xs) : ∃ i, i < xs.length ∧ xs[i]? = some v ∧ idxN xs v = (i : Nat) := by
  have hl : xs.findIdx (· == v) < xs.length := by rw [List.findIdx_lt_length]; exact ⟨v, h, by simp⟩
  refine ⟨xs.findIdx (· == v), hl, ?_, by unfold idxN; rw [if_pos hl]⟩
  rw [List.getElem?_eq_getElem hl]
  have := List.findIdx_getElem (w := hl)
  simpa using this
theorem OwnX.cut {w : World} {base e c n : Nat} {a : Option Addr} {xs : List Value} (h : OwnX w base e 1 (.slice a n c) n xs) (m : Nat) (hm : m ≤ n) : OwnX w base e 1 (.slice a m c) m (xs.take m) := by
  have hl := h.1
  refine ⟨by rw [List.length_take]; omega, ?_⟩
  rcases h.2 with ⟨h1, h0⟩ | ⟨g, cap, cur, hv, h3, h4, h5, h6, h7, h8⟩
  · cases h1
    obtain rfl : m = 0 := by omega
    exact .inl ⟨rfl, rfl⟩
  · cases hv
    refine .inr ⟨g, c, cur, rfl, h3, h4, by omega, h6, h7, ?_⟩
    rw [← h8, List.take_take, Nat.mul_one, Nat.mul_one, Nat.min_eq_left (by omega)]
theorem OwnX.zeros {e : Nat} {w : World} {base g c n : Nat} : ∀ (vs xs : List Value) (o : Nat) (w : World), OwnX w base e 1 (.slice (some ⟨g, 0, none⟩) n c) n xs → o + vs.length ≤ n → ∃ ys, OwnX (w.setCells g o vs) base e 1 (.slice (some ⟨g, 0, none⟩) n c) n ys ∧ ys.take o = xs.take o
  | [], xs, o, w, h, _ => ⟨xs, h, rfl⟩
  | v :: vs, xs, o, w, h, ho => by
    have ho' : o + (vs.length + 1) ≤ n := ho
    have h1 := h.setAt (i := o) (by omega) v
    obtain ⟨ys, h2, h3⟩ := OwnX.zeros (w := w) vs _ (o + 1) _ h1 (by omega)
    refine ⟨ys, h2, ?_⟩
    have := congrArg (List.take o) h3
    rw [List.take_take, List.take_take, Nat.min_eq_left (by omega)] at this
    rw [this, List.take_set, List.set_eq_of_length_le (by rw [List.length_take]; omega)]
/-- All blocks stay but a row's own. -/
structure KeptX (ra : Option Addr) (w w' : World) : Prop where
  size : w.heap.size ≤ w'.heap.size
  block : ∀ k, k < w.heap.size → (∀ ad, ra = some ad → ad.block ≠ k) → w'.heap[k]? = w.heap[k]?
theorem KeptX.below {ra : Option Addr} {w w' : World} (h : Below w.heap.size w w') : KeptX ra w w' := ⟨h.size, fun k hk _ => h.block k hk⟩
theorem KeptX.trans {ra : Option Addr} {w w1 w' : World} (h : KeptX ra w w1) (h' : KeptX ra w1 w') : KeptX ra w w' :=
  ⟨Nat.le_trans h.size h'.size, fun k hk hn => (h'.block k (Nat.lt_of_lt_of_le hk h.size) hn).trans (h.block k hk hn)⟩
theorem KeptX.set {g o : Nat} (w : World) (i : Nat) (v : Value) : KeptX (some ⟨g, o, none⟩) w (w.setCell ⟨g, i, none⟩ v) :=
  ⟨by simp, fun k hk hn => by simp [World.setCell, Array.getElem?_modify, hn _ rfl]⟩
theorem KeptX.setCells {g o : Nat} : ∀ (vs : List Value) (i : Nat) (w : World), KeptX (some ⟨g, o, none⟩) w (w.setCells g i vs)
  | [], _, w => ⟨Nat.le_refl _, fun _ _ _ => rfl⟩
  | v :: vs, i, w => (KeptX.set w i v).trans (KeptX.setCells vs (i + 1) _)
theorem CellsAt.keptX {w w' : World} {a ra : Option Addr} {cs : List Value} (h : CellsAt w a cs) (hk : KeptX ra w w') (hne : ∀ ad bd, a = some ad → ra = some bd → bd.block ≠ ad.block) : CellsAt w' a cs := by
  rcases h with h | ⟨b, o, rfl, h⟩
  · exact .inl h
  · refine .inr ⟨b, o, rfl, fun j u hj => ?_⟩
    have hc := h j u hj
    exact (World.cell?_of_block (hk.block b (World.block_lt_of_cell? _ _ hc) (fun bd e => hne _ bd rfl e))).trans hc
theorem Blk.keptX {w w' : World} {ra : Option Addr} {B t : Nat} {cs : List Value} (h : Blk w B t cs) (hk : KeptX ra w w') (hne : ∀ bd, ra = some bd → bd.block ≠ B) : Blk w' B t cs := (hk.block B h.lt hne).trans h
theorem OwnX.keptX {w w' : World} {ra a : Option Addr} {base e size n m c : Nat} {xs : List Value} (h : OwnX w base e size (.slice a m c) n xs) (hk : KeptX ra w w') (hne : ∀ ad bd, a = some ad → ra = some bd → bd.block ≠ ad.block) : OwnX w' base e size (.slice a m c) n xs := by
  refine ⟨h.1, ?_⟩
  rcases h.2 with h0 | ⟨g, cap, cur, hv, h3, h4, h5⟩
  · exact .inl h0
  · cases hv
    exact .inr ⟨g, _, cur, rfl, h3, (hk.block g (lt_of_block h4) (fun bd e => hne _ bd rfl e)).trans h4, h5⟩
theorem zero_int (w : World) : (zeroValue 3).run Try.prog w = .ok (.int .i64 0) w := by
  obtain ⟨i0, hi, hz0, hz1, hz2⟩ := info_parts info_i64
  simp [zeroValue, typeInfo, hi, hz0]

set_option maxRecDepth 100000 in
set_option maxHeartbeats 2000000 in
theorem delF_any (t : Int) (rs : List Int) (ra : Option Addr) (n c base B : Nat) (w : World) (hr : OwnX w base 3 1 (.slice ra n c) n (rs.map (Value.int .i64))) (hn : n = rs.length) (hinc : rs.Pairwise (· < ·)) (hm : t ∈ rs) (hml : n ≤ 1000000) (hB : B < base) (hbase : base ≤ w.heap.size) (hc0 : w.cell? ⟨B, 0, none⟩ = some (.int .i64 t)) :
    Calls Try.prog 31 #[.slice ra n c, .func (.func 32) #[] #[.pointer (some ⟨B, 0, none⟩)]] w fun e w' =>
      e = .returned (.slice ra (n - 1) c) ∧ OwnX w' base 3 1 (.slice ra (n - 1) c) (n - 1) ((delL rs t).map (Value.int .i64)) ∧ Below base w w' ∧ KeptX ra w w' := by
  obtain ⟨i0, hi0, hti, hid⟩ := idxN_mem hm
  have hdl := delL_at rs i0 hinc hti
  obtain ⟨dd, hdd⟩ : ∃ dd, delL rs t = dd := ⟨_, rfl⟩
  rw [hdd] at hdl ⊢
  have hat : ∀ m, i0 ≤ m → dd[m]? = rs[m + 1]? := fun m h => by rw [hdl, List.getElem?_eraseIdx, if_neg (by omega)]
  have hbf : dd.take i0 = rs.take i0 := by
    apply List.ext_getElem?
    intro j
    rw [List.getElem?_take, List.getElem?_take]
    split
    · rw [hdl, List.getElem?_eraseIdx, if_pos ‹_›]
    · rfl
  have hdn : dd.length = n - 1 := by rw [hdl, List.length_eraseIdx_of_lt hi0, hn]
  have hin : i0 < n := by omega
  obtain ⟨g, rfl, hg1, hg2, hg3, hg4⟩ := hr.at (by omega)
  have hne : ∀ m, i0 < m → m < n → ∀ x, rs[m]? = some x → x ≠ t := fun m h1 h2 x hx e => by
    subst e
    have := List.pairwise_iff_getElem.1 hinc i0 m hi0 (by omega) h1
    rw [List.getElem?_eq_getElem hi0] at hti
    rw [List.getElem?_eq_getElem (by omega)] at hx
    injection hti with e1; injection hx with e2
    omega
  have hxa := hr.cellsAt
  have hneg : ((i0 : Int) == -1) = false := by first | (simp; done) | (simp; omega)
  have hnc : n ≤ c := by obtain ⟨_, _, e0, h0, _⟩ := hr.cells; cases e0; exact h0
  clear hg2 hg3 hg4
  have H_hn := Box.mk hn
  have H_hi0 := Box.mk hi0
  have H_hti := Box.mk hti
  have H_hid := Box.mk hid
  have H_hdl := Box.mk hdl
  have H_hdd := Box.mk hdd
  have H_hat := Box.mk hat
  have H_hbf := Box.mk hbf
  have H_hdn := Box.mk hdn
  have H_hne := Box.mk hne
  have H_hinc := Box.mk hinc
  have H_hm := Box.mk hm
  have H_hr := Box.mk hr
  clear hn hi0 hti hid hdl hdd hat hbf hdn hne hinc hm hr
  go_enter Try.func31, Try.ntmps31
  have hb0 := Below.refl w.heap.size w
  go_wp2_with fail
  with_reducible refine (idxF_any t rs (some ⟨g, 0, none⟩) n c B _ H_hn.out hxa hml (by omega) hc0).mono ?_
  rintro e w1 ⟨rfl, hc1⟩
  have hb1 : Below w.heap.size w w1 := bchain (by repeat' (first | with_reducible exact hb0 | with_reducible refine Below.drew ?_ | with_reducible refine below_drewN ?_ _ | with_reducible refine Below.alloc ?_ (by have := hb0.size; first | (simp; done) | (simp; omega) | omega) _ | with_reducible refine Below.setCell ?_ (by first | (simp; done) | (simp; omega) | omega) _)) hc1
  clear hc1 hb0
  rw [H_hid.out]
  go_wp2_with fail
  go_loopw [5, 6] (fun i j wr => ∃ m : Nat, i0 ≤ m ∧ m + 1 ≤ n ∧ i = .int .i64 m ∧ j = .int .i64 (m + 1 : Nat) ∧ Below base w wr ∧ OwnX wr base 3 1 (.slice (some ⟨g, 0, none⟩) n c) n ((dd.take m ++ rs.drop m).map (Value.int .i64)) ∧ KeptX (some ⟨g, 0, none⟩) w wr) (fun _ j _ => n - (intOf j).toNat)
  case atStart =>
    refine ⟨i0, Nat.le_refl _, by omega, rfl, by first | rfl | go_num, hb1.mono hbase, ?_, .below hb1⟩
    rw [H_hbf.out, List.take_append_drop]
    exact H_hr.out.later hb1
  case round =>
    obtain ⟨m, hm1, hm2, rfl, rfl, hbw, ow, hkx⟩ := hrel
    have hBw : B < wr.heap.size := by have := hbw.size; have := (ow.lt g rfl); omega
    have hcw : wr.cell? ⟨B, 0, none⟩ = some (.int .i64 t) := (hbw.cell (p := ⟨B, 0, none⟩) hB).trans hc0
    have hgw := (ow.lt g rfl).2
    by_cases hlt : m + 1 < n
    · have hlt' : (m : Int) + 1 < (n : Int) := by omega
      have hltN : ((m + 1 : Nat) : Int) < (n : Int) := by omega
      obtain ⟨x, hx⟩ : ∃ x, rs[m + 1]? = some x := ⟨_, List.getElem?_eq_getElem (by have := H_hn.out; omega)⟩
      have hp : (x == t) = false := beq_eq_false_iff_ne.2 (H_hne.out (m + 1) (by omega) hlt x hx)
      have hdx : dd[m]? = some x := (H_hat.out m hm1).trans hx
      have hml2 : m < dd.length := by have := H_hdn.out; omega
      have htl : (dd.take m).length = m := by rw [List.length_take]; omega
      have hxs : ((dd.take m ++ rs.drop m).map (Value.int .i64))[m + 1]? = some (.int .i64 x) := by
        rw [List.getElem?_map, List.getElem?_append_right (by omega), htl, List.getElem?_drop, show m + (m + 1 - m) = m + 1 by omega, hx]; rfl
      obtain ⟨_, e0, _, _, hcl, hfr⟩ := ow.at (by omega)
      cases e0
      have cx := hcl _ _ hxs
      obtain ⟨y, hy⟩ : ∃ y, ((dd.take m ++ rs.drop m).map (Value.int .i64))[m]? = some y := ⟨_, List.getElem?_eq_getElem (by rw [ow.len]; omega)⟩
      have cy := hcl _ _ hy
      have fy := hfr m
      have hnext : ((dd.take m ++ rs.drop m).map (Value.int .i64)).set m (.int .i64 x) = (dd.take (m + 1) ++ rs.drop (m + 1)).map (Value.int .i64) := by
        rw [← List.map_set, List.set_append_right _ _ (by omega), htl, Nat.sub_self]
        congr 1
        rw [List.drop_eq_getElem_cons (by have := H_hn.out; omega), List.set_cons_zero, List.take_add_one, hdx]
        simp
      clear hcl hfr
      have H_hx := Box.mk hx
      have H_hp := Box.mk hp
      have H_hdx := Box.mk hdx
      have H_hml2 := Box.mk hml2
      have H_htl := Box.mk htl
      have H_hxs := Box.mk hxs
      have H_hnext := Box.mk hnext
      have H_hy := Box.mk hy
      clear hx hp hdx hml2 htl hxs hnext hy
      clear hc0 hxa
      go_wp2_with fail
      with_reducible refine (free1_any x t B _ hBw hcw).mono ?_
      rintro e w11 ⟨rfl, hc11⟩
      rw [H_hp.out]
      have cy' := cell_later hc11 cy
      have fy' := frozen_later hc11 hgw fy
      have ow' := ow.later hc11
      have hb11 : Below base w w11 := hbw.trans (hc11.mono (by have := hbw.size; omega))
      have hkx' := hkx.trans (.below hc11)
      clear cy fy cx hcw hc11
      go_wp2_with fail
      go_roundw
      case rel => exact ⟨m + 1, by omega, by omega, by first | rfl | go_num, by first | rfl | go_num, hb11.setCell hg1 _, H_hnext.out ▸ ow'.setAt (by omega) _, hkx'.trans (.set _ _ _)⟩
      case measure => simp [intOf]; omega
    · obtain rfl : n = m + 1 := by omega
      have hge : ((m + 1 : Nat) : Int) ≤ (m : Int) + 1 := by omega
      have hd1 : dd.take m = dd := List.take_of_length_le (by have := H_hdn.out; omega)
      obtain ⟨_, e0, _, _, hcl, hfr⟩ := ow.at (by omega)
      cases e0
      have hsome : ∀ j, j < 1 → (wr.cell? ⟨g, m + j, none⟩).isSome = true := fun j hj => by
        obtain rfl : j = 0 := by omega
        show (wr.cell? ⟨g, m, none⟩).isSome = true
        rw [hcl m _ (List.getElem?_eq_getElem (by rw [ow.len]; omega))]; rfl
      have hclr : ∀ ty cc, (Builtin.clear_ #[22] ty #[.slice (some ⟨g, m, none⟩) 1 cc]).run Try.prog wr = .ok (.tuple #[]) (wr.setCells g m (List.replicate 1 (.int .i64 0))) := fun ty cc => Lib.run_clear_slice wr _ _ ty _ Try.underlying22 zero_int rfl rfl g m 1 cc (by omega) hsome (fun j _ => hfr (m + j))
      obtain ⟨ys, oy, hys⟩ := OwnX.zeros (w := wr) (List.replicate 1 (.int .i64 0)) _ m wr ow (by simp)
      have ocut := oy.cut m (by omega)
      rw [hys] at ocut
      have hcut : ((dd.take m ++ rs.drop m).map (Value.int .i64)).take m = dd.map (Value.int .i64) := by
        rw [← List.map_take, List.take_append_of_le_length (by rw [hd1]; have := H_hdn.out; omega), hd1, ← hd1, List.take_take, Nat.min_self]
      rw [hcut] at ocut
      clear hcl hfr
      have H_hd1 := Box.mk hd1
      have H_hys := Box.mk hys
      have H_hcut := Box.mk hcut
      have H_ocut := Box.mk ocut
      clear hd1 hys hcut ocut
      go_wp2_with fail
      go_ret
      refine ⟨?_, ?_, ?_, hkx.trans (.setCells _ _ _)⟩
      · simp
      · simpa using H_ocut.out
      · exact below_setCells hg1 _ _ _ hbw

end Go.Proofs.Ytnkbbfeaodppgaa
