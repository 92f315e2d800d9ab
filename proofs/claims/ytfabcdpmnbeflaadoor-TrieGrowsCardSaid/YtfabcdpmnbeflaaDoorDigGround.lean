/- The reference's grinding of a block. -/
import Derived.Test.YtfabcdpmnbeflaaDoorDigEq
namespace Go.Proofs.YtfabcdpmnbeflaaDoor
set_option maxRecDepth 100000
set_option linter.unusedSimpArgs false
set_option linter.unusedVariables false
set_option linter.unnecessarySimpa false
open Go.RowKit

set_option maxRecDepth 100000 in
set_option maxHeartbeats 3000000 in
theorem ground_any (v : V8) (bs : List Int) (a : Option Addr) (n c : Nat) (w : World) (hv : v.ok) (hn : n = bs.length) (h64 : 64 ≤ n) (hc : CellsAt w a (bs.map (Value.int .u8))) (hb : Bytes8 bs) :
    Calls Tryd.prog 75 #[.agg #[.int .u32 v.a, .int .u32 v.b, .int .u32 v.c, .int .u32 v.d, .int .u32 v.e, .int .u32 v.f, .int .u32 v.g, .int .u32 v.z], .slice a n c] w fun e w' =>
      ∃ u : V8, e = .returned (.agg #[.int .u32 u.a, .int .u32 u.b, .int .u32 u.c, .int .u32 u.d, .int .u32 u.e, .int .u32 u.f, .int .u32 u.g, .int .u32 u.z]) ∧ u.list = ground v.list bs ∧ Below w.heap.size w w' := by
  obtain ⟨i0, hi, hz0, hz1, hz2⟩ := info_parts info_u32
  have HV := hid hv
  have HN := hid hn
  have hn64 : (64 : Int) ≤ (n : Int) := by omega
  clear hv hn
  go_enter Tryd.func75, Tryd.ntmps75
  have hb0 := Below.refl w.heap.size w
  go_wp2_with fail
  refine wp_gen fun w1 hc1 => ?_
  have hH : Blk w1 w.heap.size 93 (v.list.map (Value.int .u32)) := Blk.later ((Blk.newA w _ _ _ (v.list.map (Value.int .u32)) rfl (by rfl)).alloc _) hc1
  have hR : Blk w1 (w.heap.size + 1) 93 (List.replicate 8 (Value.int .u32 0)) := Blk.later (Blk.newA _ _ _ _ (List.replicate 8 (Value.int .u32 0)) (by simp) (by rfl)) hc1
  have hb1 : Below w.heap.size w w1 := bchain (by repeat' (first | with_reducible exact hb0 | with_reducible refine Below.drew ?_ | with_reducible refine below_drewN ?_ _ | with_reducible refine Below.alloc ?_ (by have := hb0.size; first | (simp; done) | (simp; omega) | omega) _ | with_reducible refine Below.setCell ?_ (by first | (simp; done) | (simp; omega) | omega) _)) hc1
  clear hc1 hb0
  have hcl := hc.later hb1
  have zR1 := hR.lt
  go_loopw [5, 6] (fun s q wr => ∃ (t : Nat) (av : Option Addr) (cv : Nat), t ≤ 16 ∧ q = .int .i64 t ∧ s = .slice av t cv ∧ Below w1.heap.size w1 wr ∧ OwnX wr w1.heap.size 92 1 (.slice av t cv) t ((wds bs t).map (Value.int .u32))) (fun _ q _ => 16 - (intOf q).toNat)
  case atStart => exact ⟨0, none, 0, by omega, rfl, rfl, Below.refl _ _, OwnX.nil _ _ _ _⟩
  case round =>
    obtain ⟨t, av, cv, ht, rfl, rfl, hc2, ow⟩ := hrel
    by_cases hlt : t < 16
    · have hlt' : (t : Int) < 16 := by omega
      obtain ⟨b, o, rfl, hcell⟩ := hcl.int (by have := HN.out; omega)
      obtain ⟨q0, hq0⟩ : ∃ q, q = 4 * t := ⟨_, rfl⟩
      obtain ⟨q1, hq1⟩ : ∃ q, q = 4 * t + 1 := ⟨_, rfl⟩
      obtain ⟨q2, hq2⟩ : ∃ q, q = 4 * t + 2 := ⟨_, rfl⟩
      obtain ⟨q3, hq3⟩ : ∃ q, q = 4 * t + 3 := ⟨_, rfl⟩
      have c0 := cell_later hc2 (hcell q0 (by have := HN.out; omega))
      have c1 := cell_later hc2 (hcell q1 (by have := HN.out; omega))
      have c2 := cell_later hc2 (hcell q2 (by have := HN.out; omega))
      have c3 := cell_later hc2 (hcell q3 (by have := HN.out; omega))
      have hX : wdAt bs t = ((bs[q0]?.getD 0 * 256 + bs[q1]?.getD 0) * 256 + bs[q2]?.getD 0) * 256 + bs[q3]?.getD 0 := by rw [hq0, hq1, hq2, hq3]; rfl
      obtain ⟨b0l, b0h⟩ := hb.at q0
      obtain ⟨b1l, b1h⟩ := hb.at q1
      obtain ⟨b2l, b2h⟩ := hb.at q2
      obtain ⟨b3l, b3h⟩ := hb.at q3
      generalize bs[q0]?.getD 0 = x0 at *
      generalize bs[q1]?.getD 0 = x1 at *
      generalize bs[q2]?.getD 0 = x2 at *
      generalize bs[q3]?.getD 0 = x3 at *
      clear hcell
      have w0 : IntKind.i64.wrap ((4 : Int) * (t : Int)) = (q0 : Int) := by rw [IntKind.wrap_i64]; omega
      have w1' : IntKind.i64.wrap ((q0 : Int) + 1) = (q1 : Int) := by rw [IntKind.wrap_i64]; omega
      have w2' : IntKind.i64.wrap ((q0 : Int) + 2) = (q2 : Int) := by rw [IntKind.wrap_i64]; omega
      have w3' : IntKind.i64.wrap ((q0 : Int) + 3) = (q3 : Int) := by rw [IntKind.wrap_i64]; omega
      have l0 : (q0 : Int) < (n : Int) := by omega
      have l1 : (q1 : Int) < (n : Int) := by omega
      have l2 : (q2 : Int) < (n : Int) := by omega
      have l3 : (q3 : Int) < (n : Int) := by omega
      have H_hq0 := hid hq0
      have H_hq1 := hid hq1
      have H_hq2 := hid hq2
      have H_hq3 := hid hq3
      have H_hX := hid hX
      clear hq0 hq1 hq2 hq3 hX
      go_wp2_with fail
      have HX2 := hid ((wdW_eq x0 x1 x2 x3 b0l b0h b1l b1h b2l b2h b3l b3h).trans H_hX.out.symm)
      have z2 := hc2.size
      have zb := World.block_lt_of_cell? _ _ c0
      simp only at zb
      have zb' : b < w1.heap.size := by
        rcases hcl with h | ⟨b', o', e, h⟩
        · have h' := congrArg List.length h; rw [List.length_map] at h'; have := HN.out; have h'' : bs.length = 0 := h'; omega
        · cases e; exact World.block_lt_of_cell? _ _ (h 0 _ (by rw [List.getElem?_map, List.getElem?_eq_getElem (by have := HN.out; omega)]; rfl))
      go_region_held3 (fun w' => w'.cell? ⟨b, o + q0, none⟩ = some (.int .u8 x0) ∧ w'.cell? ⟨b, o + q1, none⟩ = some (.int .u8 x1) ∧ w'.cell? ⟨b, o + q2, none⟩ = some (.int .u8 x2) ∧ w'.cell? ⟨b, o + q3, none⟩ = some (.int .u8 x3)) (first | exact ⟨c0, c1, c2, c3⟩ | go_keep) ((first | (refine step_append_x _ (by rfl) _ _ _ (by rfl) w1.heap.size 92 i0 (.int .u32 0) 1 4 Tryd.underlying114 hi hz0 hz1 hz2 rfl (by omega) (.slice av t cv) t _ (by rfl) ((ow.alloc _).drew) (some ⟨wr.heap.size, 0, none⟩) 1 1 [.int .u32 (IntKind.u32.wrap (IntKind.u32.wrap (IntKind.u32.wrap (IntKind.u32.wrap (IntKind.u32.wrap (IntKind.u32.wrap (IntKind.u32.wrap x0 * 256) + IntKind.u32.wrap x1) * 256) + IntKind.u32.wrap x2) * 256) + IntKind.u32.wrap x3))] (by rfl) rfl ((cellsAt_one wr _ _).drew) (oneCell_int _ _) (by unfold maxLen; omega) (by omega) (by simp; omega) ?_; intro a5 c5 w5 o5 hg5 hk5; (have hb5 : Below w1.heap.size w1 w5 := below_grownX (Below.drew (hc2.alloc z2 _)) hg5 (by simp; omega) (fun q h => (ow.lt q h).1)); (have hb5w : Below w1.heap.size wr w5 := below_grownX (Below.drew ((Below.refl _ _).alloc z2 _)) hg5 (by simp; omega) (fun q h => (ow.lt q h).1)); (replace c0 := (hb5w.cell (p := ⟨b, o + q0, none⟩) zb').trans c0); (replace c1 := (hb5w.cell (p := ⟨b, o + q1, none⟩) zb').trans c1); (replace c2 := (hb5w.cell (p := ⟨b, o + q2, none⟩) zb').trans c2); (replace c3 := (hb5w.cell (p := ⟨b, o + q3, none⟩) zb').trans c3))))
      go_wp2_with fail
      go_roundw
      case rel => exact ⟨t + 1, a5, c5, by omega, by go_num, rfl, hb5, by rw [HX2.out] at o5; simpa [wds, List.range_succ] using o5⟩
      case measure => simp [intOf]; omega
    · have hge : (16 : Int) ≤ (t : Int) := by omega
      have ht16 : t = 16 := by omega
      have HT16 := hid ht16
      have ow' : OwnX wr w1.heap.size 92 1 (.slice av t cv) t ((wdx bs 0).map (Value.int .u32)) := by have h := ow; rw [ht16] at h; rw [ht16]; exact h
      clear ht16 ow
      go_wp2_with fail
      go_loopw [5, 7] (fun s q wr => ∃ (k : Nat) (av : Option Addr) (cv m : Nat), k ≤ 48 ∧ q = .int .i64 ((16 + k : Nat) : Int) ∧ s = .slice av m cv ∧ Hid (m = 16 + k) ∧ Below w1.heap.size w1 wr ∧ OwnX wr w1.heap.size 92 1 (.slice av m cv) m ((wdx bs k).map (Value.int .u32))) (fun _ q _ => 64 - (intOf q).toNat)
      case atStart => exact ⟨0, av, cv, t, by omega, rfl, rfl, HT16, hc2, ow'⟩
      case round =>
        clear ow' hc2
        obtain ⟨k, av, cv, T, hk, rfl, rfl, HmT, hc2, ow⟩ := hrel
        by_cases hlt : k < 48
        · have hl := wdx_len bs k
          have rA := fun j => (wdx_rng hb k).at j
          have hT := HmT.out
          rw [← hT] at hl
          have hT16 : (16 : Int) ≤ (T : Int) := by omega
          have hT64 : (T : Int) < 64 := by omega
          obtain ⟨A, hA⟩ : ∃ A : Nat, A = T - 15 := ⟨_, rfl⟩
          obtain ⟨B, hB'⟩ : ∃ B : Nat, B = T - 2 := ⟨_, rfl⟩
          obtain ⟨C, hC⟩ : ∃ C : Nat, C = T - 16 := ⟨_, rfl⟩
          obtain ⟨D, hD⟩ : ∃ D : Nat, D = T - 7 := ⟨_, rfl⟩
          have eA : (T : Int) - 15 = (A : Int) := by omega
          have eB : (T : Int) - 2 = (B : Int) := by omega
          have zA : (A : Int) < (T : Int) := by omega
          have zB : (B : Int) < (T : Int) := by omega
          have zC : (C : Int) < (T : Int) := by omega
          have zD : (D : Int) < (T : Int) := by omega
          obtain ⟨g, _, hge, _, _⟩ := World.ownsRow.form (show wr.ownsRow w1.heap.size 92 1 (.slice av T cv) T ((wdx bs k).map (Value.int .u32)) from ow) (by omega)
          cases hge
          obtain ⟨g', go, he, hcell⟩ := ow.cellsAt.int (by omega)
          cases he
          simp only [Nat.zero_add] at hcell
          have cA := hcell A (by omega)
          have cB := hcell B (by omega)
          have cC := hcell C (by omega)
          have cD := hcell D (by omega)
          have hX : arwNext (wdx bs k) (16 + k) = arwNext (wdx bs k) T := by rw [hT]
          unfold arwNext at hX
          rw [← hA, ← hB', ← hC, ← hD] at hX
          have rAA := rA A
          have rBB := rA B
          generalize hxA : (wdx bs k)[A]?.getD 0 = xA at *
          generalize hxB : (wdx bs k)[B]?.getD 0 = xB at *
          generalize hxC : (wdx bs k)[C]?.getD 0 = xC at *
          generalize hxD : (wdx bs k)[D]?.getD 0 = xD at *
          obtain ⟨rA0, rA1⟩ := rAA
          obtain ⟨rB0, rB1⟩ := rBB
          clear rA hcell
          have wC : IntKind.i64.wrap ((T : Int) - 16) = (C : Int) := by rw [IntKind.wrap_i64]; omega
          have wD : IntKind.i64.wrap ((T : Int) - 7) = (D : Int) := by rw [IntKind.wrap_i64]; omega
          rw [← hT]
          have H_hl := hid hl
          have H_hA := hid hA
          have H_hB' := hid hB'
          have H_hC := hid hC
          have H_hD := hid hD
          have H_hT := hid hT
          have H_hxA := hid hxA
          have H_hxB := hid hxB
          have H_hxC := hid hxC
          have H_hxD := hid hxD
          have H_hX := hid hX
          have H_wC := hid wC
          have H_wD := hid wD
          clear hl hA hB' hC hD hT hxA hxB hxC hxD hX wC wD
          go_wp2_with fail
          go_quiet (fail)
          have wC := H_wC.out
          have wD := H_wD.out
          clear cA cB
          go_wp2_with fail
          have hlp : 0 < (wdx bs k).length := by have := H_hl.out; omega
          have hCl : C < (wdx bs k).length := by have := H_hl.out; omega
          have hDl : D < (wdx bs k).length := by have := H_hl.out; omega
          have hT1 : T + 1 ≤ maxLen := by unfold maxLen; omega
          have hT2 : (T + 1) * 4 ≤ 140737488355328 := by omega
          refine wp_gen fun w4 hc4 => ?_
          have hst4 : Below wr.heap.size wr w4 := bchain (by repeat' (first | with_reducible exact Below.refl _ _ | with_reducible refine below_drewN ?_ _)) hc4
          replace ow := ow.later hst4
          replace cC := cell_later hst4 cC
          replace cD := cell_later hst4 cD
          replace hc2 := bchain hc2 hst4
          clear hst4 hc4
          go_region_held3 (fun w' => w'.cell? ⟨g, C, none⟩ = some (.int .u32 xC) ∧ w'.cell? ⟨g, D, none⟩ = some (.int .u32 xD)) (first | exact ⟨cC, cD⟩ | go_keep) ((first | (go_at_call 78; (first | with_reducible refine (turn_7 xA _ rA0 rA1).mono ?_ | with_reducible refine (turn_18 xA _ rA0 rA1).mono ?_ | with_reducible refine (turn_17 xB _ rB0 rB1).mono ?_ | with_reducible refine (turn_19 xB _ rB0 rB1).mono ?_); rintro e wt ⟨rfl, hct⟩; (replace cC := cell_later hct cC); (replace cD := cell_later hct cD); (first | (replace ow := OwnX.laterD ow hct) | (replace ow := OwnX.later ow hct)); (have hn2 : Below w1.heap.size w1 wt := bchain (by repeat' (first | with_reducible exact hc2 | with_reducible refine Below.drew ?_ | with_reducible refine below_drewN ?_ _)) hct); (replace hc2 := hn2); clear hct) | (refine step_append_k _ (by rfl) _ _ _ (by rfl) w1.heap.size 92 i0 (.int .u32 0) 1 4 Tryd.underlying114 hi hz0 hz1 hz2 rfl (by omega) g cv T _ (by rfl) (ow.alloc _) wt.heap.size 0 1 1 [.int .u32 _] (by rfl) rfl (cellsAt_one wt _ _) (oneCell_int _ _) (by omega) hT1 hT2 ?_ ?_; (focus (have zz := hc2.size; simp; omega)); intro a5 c5 w5 o5 hb5w hk5; (have hb5 : Below w1.heap.size w1 w5 := Below.trans (hc2.alloc hc2.size _) hb5w); (obtain ⟨g5, go5, he5, hcell5⟩ := hk5.int hlp); (cases he5); (simp only [Nat.zero_add] at hcell5); (have cC5 := hcell5 C hCl); (have cD5 := hcell5 D hDl); (rw [H_hxC.out] at cC5); (rw [H_hxD.out] at cD5); (replace cC := cC5); (replace cD := cD5))))
          go_wp2_with fail
          go_roundw
          case rel =>
            have e1 : (wdx bs (k + 1)).map (Value.int .u32) = (wdx bs k).map (Value.int .u32) ++ [.int .u32 (arwNext (wdx bs k) (16 + k))] := by rw [wdx, List.map_append]; rfl
            refine ⟨k + 1, a5, c5, T + 1, by omega, congrArg (Value.int .i64) (by have := H_hT.out; omega), rfl, hid (by have := H_hT.out; omega), hb5, ?_⟩
            rw [e1]
            refine ow_last o5 ?_
            unfold arwNext sg0 sg1
            rw [← H_hT.out, ← H_hC.out, ← H_hD.out, ← H_hA.out, ← H_hB'.out, H_hxC.out, H_hxD.out, H_hxA.out, H_hxB.out]
            simp only [IntKind.wrap_u32]
            omega
          case measure => simp [intOf]; omega
        · have hk48 : k = 48 := by omega
          have hge2 : (64 : Int) ≤ ((16 + k : Nat) : Int) := by omega
          have hT64 : T = 64 := by have := HmT.out; omega
          rw [hk48, ← arw48 hb] at ow
          have kr := ow.cellsAt
          have zav := ow.addr
          have HT64 := hid hT64
          clear hk48 hT64 ow
          have hbx : Below w.heap.size w wr := bchain hb1 hc2
          replace hH := hH.below hc2 (by omega)
          replace hR := hR.below hc2 zR1
          have zR2 := hR.lt
          obtain ⟨w2, hw2⟩ : ∃ w2, w2 = wr := ⟨wr, rfl⟩
          subst hw2
          go_wp2_with fail
          with_reducible refine (consts_any _).mono ?_
          rintro e w3 ⟨kb, rfl, kk, hc3⟩
          have zz3' := hc3.size
          have hb3 : Below w.heap.size w w3 := bchain (by repeat' (first | with_reducible exact hbx | with_reducible refine Below.drew ?_ | with_reducible refine below_drewN ?_ _ | with_reducible refine Below.alloc ?_ (by have := hbx.size; first | (simp; done) | (simp; omega) | omega) _ | with_reducible refine Below.setCell ?_ (by first | (simp; done) | (simp; omega) | omega) _)) hc3
          have hst3 : Below w2.heap.size w2 w3 := bchain (by repeat' (first | with_reducible exact Below.refl _ _ | with_reducible refine Below.drew ?_ | with_reducible refine below_drewN ?_ _ | with_reducible refine Below.alloc ?_ (by first | (simp; done) | (simp; omega) | omega) _ | with_reducible refine Below.setCell ?_ (by first | (simp; done) | (simp; omega) | omega) _)) hc3
          replace kr := kr.later hst3
          replace hH := hH.later hst3
          replace hR := hR.later hst3
          clear hst3
          have h0 := hH.cell (j := 0) (v := .int .u32 v.a) rfl
          have h1 := hH.cell (j := 1) (v := .int .u32 v.b) rfl
          have h2 := hH.cell (j := 2) (v := .int .u32 v.c) rfl
          have h3 := hH.cell (j := 3) (v := .int .u32 v.d) rfl
          have h4 := hH.cell (j := 4) (v := .int .u32 v.e) rfl
          have h5 := hH.cell (j := 5) (v := .int .u32 v.f) rfl
          have h6 := hH.cell (j := 6) (v := .int .u32 v.g) rfl
          have h7 := hH.cell (j := 7) (v := .int .u32 v.z) rfl
          have zH3 := hH.lt
          have zR3 := hR.lt
          have zk3 : kb < w3.heap.size := by
            rcases kk with h | ⟨b', o', e', h⟩
            · cases h
            · cases e'; exact World.block_lt_of_cell? _ _ (h 0 (.int .u32 1116352408) rfl)
          go_wp2_with fail
          clear h0 h1 h2 h3 h4 h5 h6 h7
          refine wp_gen fun w4 hc4 => ?_
          obtain ⟨VB, hVB⟩ : ∃ VB, VB = w3.heap.size := ⟨_, rfl⟩
          have hV4 : Blk w4 VB 93 (v.list.map (Value.int .u32)) := Blk.later (hVB ▸ Blk.newA w3 _ _ _ (v.list.map (Value.int .u32)) rfl (by rfl)) hc4
          have hb4 : Below w.heap.size w w4 := bchain (by repeat' (first | with_reducible exact hb3 | with_reducible refine Below.drew ?_ | with_reducible refine below_drewN ?_ _ | with_reducible refine Below.alloc ?_ (by have := hb3.size; first | (simp; done) | (simp; omega) | omega) _ | with_reducible refine Below.setCell ?_ (by first | (simp; done) | (simp; omega) | omega) _)) hc4
          have hst4 : Below w3.heap.size w3 w4 := bchain (by repeat' (first | with_reducible exact Below.refl _ _ | with_reducible refine Below.drew ?_ | with_reducible refine below_drewN ?_ _ | with_reducible refine Below.alloc ?_ (by first | (simp; done) | (simp; omega) | omega) _ | with_reducible refine Below.setCell ?_ (by first | (simp; done) | (simp; omega) | omega) _)) hc4
          replace kr := kr.later hst4
          replace hH := hH.later hst4
          replace hR := hR.later hst4
          replace kk := kk.later hst4
          clear hst4
          rw [← hVB]
          have zVB := hV4.lt
          have zkb : kb < VB := by rw [hVB]; exact zk3
          have zHV : w.heap.size < VB := by rw [hVB]; exact zH3
          have zRV : w.heap.size + 1 < VB := by rw [hVB]; exact zR3
          have zVw : w2.heap.size ≤ VB := by rw [hVB]; exact zz3'
          clear hVB hc4
          have hcV : Below VB w4 w4 := Below.refl _ _
          go_loopw [12] (fun q wr => ∃ (t : Nat) (v' : V8), t ≤ 64 ∧ q = .int .i64 t ∧ Hid (v' = vAt v (arw bs 48) t) ∧ Below VB w4 wr ∧ Blk wr VB 93 (v'.list.map (Value.int .u32))) (fun q _ => 64 - (intOf q).toNat)
          case atStart => exact ⟨0, v, by omega, rfl, hid rfl, Below.refl _ _, hV4⟩
          case round =>
            obtain ⟨t, v', ht, rfl, HV', hcv, hV⟩ := hrel
            have Hok : Hid v'.ok := hid (HV'.out ▸ vAt_ok HV.out _ t)
            have hbv : Below w.heap.size w wr := hb4.trans (hcv.mono (by omega))
            by_cases hlt : t < 64
            · have hlt' : (t : Int) < 64 := by omega
              obtain ⟨a1, b, c1, d, e, f, g, zz⟩ := v'
              have hok := Hok.out
              obtain ⟨g1, g2, g3, g4, g5, g6, g7, g8⟩ := hok
              simp only at g1 g5
              obtain ⟨g1a, g1b⟩ := g1
              obtain ⟨g5a, g5b⟩ := g5
              clear g2 g3 g4 g6 g7 g8
              have d0 := hV.cell (j := 0) (v := .int .u32 a1) rfl
              have d1 := hV.cell (j := 1) (v := .int .u32 b) rfl
              have d2 := hV.cell (j := 2) (v := .int .u32 c1) rfl
              have d4 := hV.cell (j := 4) (v := .int .u32 e) rfl
              have d5 := hV.cell (j := 5) (v := .int .u32 f) rfl
              have d6 := hV.cell (j := 6) (v := .int .u32 g) rfl
              have d7 := hV.cell (j := 7) (v := .int .u32 zz) rfl
              have kr5 := kr.below hcv (fun b o e => by have := (zav _ e).2; simp only at this; omega)
              have kk5 := kk.below hcv (fun b o e => by cases e; exact zkb)
              obtain ⟨rb, ro, rfl, hcell⟩ := kr5.int (by rw [arw_len]; omega)
              obtain ⟨kb', ko, hke, hkc⟩ := kk5.int (by rw [kcs_len]; omega)
              cases hke
              have cW := hcell t (by rw [arw_len]; omega)
              have cK := hkc t (by rw [kcs_len]; omega)
              rw [Nat.zero_add] at cK
              clear hcell hkc kr5 kk5
              obtain ⟨x, hx⟩ : ∃ x, x = (arw bs 48)[t]?.getD 0 := ⟨_, rfl⟩
              obtain ⟨k', hk'⟩ : ∃ k', k' = kcs[t]?.getD 0 := ⟨_, rfl⟩
              rw [← hx] at cW
              rw [← hk'] at cK
              have HT := HT64.out
              have hTt : (t : Int) < (T : Int) := by omega
              clear zav
              have H_hx := hid hx
              have H_hk' := hid hk'
              have H_HT := hid HT
              clear hx hk' HT
              have hsg : IntKind.u32.signed = false := rfl
              have hmx : IntKind.u32.max = 4294967295 := rfl
              go_wp2_with fail
              go_quiet (fail)
              clear d0 d1 d2 d4 d5 d6
              go_wp2_with fail
              refine wp_gen fun w5 hc5 => ?_
              have hst5 : Below wr.heap.size wr w5 := bchain (by repeat' (first | with_reducible exact Below.refl _ _ | with_reducible refine below_drewN ?_ _ | with_reducible refine Below.drew ?_)) hc5
              replace d7 := cell_later hst5 d7
              replace cW := cell_later hst5 cW
              replace cK := cell_later hst5 cK
              have hV5 := hV.later hst5
              have hc5' : Below VB w4 w5 := hcv.trans (hst5.mono (Nat.le_of_lt hV.lt))
              clear hst5 hc5
              have Kd7 := cell_on d7
              have KcW := cell_on cW
              have KcK := cell_on cK
              refine wp_region_on (by kernel_rfl) (by kernel_rfl) ?_
              repeat (go_big_quiet_step ((first | (go_at_call 78; (first | with_reducible exact calls_on (turn_6 e _ g5a g5b) | with_reducible exact calls_on (turn_11 e _ g5a g5b) | with_reducible exact calls_on (turn_25 e _ g5a g5b))))))
              refine wpQuiet_nil ?_
              intro w6 hc6
              clear Kd7 KcW KcK d7 cW cK
              generalize hp : (((zz + bits BinOp.xor IntKind.u32 (bits BinOp.xor IntKind.u32 (rotr e 6) (rotr e 11)) (rotr e 25) + bits BinOp.xor IntKind.u32 (bits BinOp.and IntKind.u32 e f) (bits BinOp.and IntKind.u32 (bits BinOp.xor IntKind.u32 4294967295 e) g) + k') % 4294967296 + x) % 4294967296) = p
              have Hp := hid (show p = V8.p ⟨a1, b, c1, d, e, f, g, zz⟩ k' x by rw [← hp]; exact V8.p_eq a1 b c1 d e f g zz k' x)
              clear hp hsg hmx
              have hV6 := hV5.later hc6
              have hb6 : Below w.heap.size w w6 := bchain (hb4.trans (hc5'.mono (by omega))) hc6
              have hc6' : Below VB w4 w6 := hc5'.trans (hc6.mono (Nat.le_of_lt hV5.lt))
              clear hV5 hc6
              go_wp2_with fail
              with_reducible refine (turn_2 a1 _ g1a g1b).mono ?_
              rintro e1 w7 ⟨rfl, hc7⟩
              go_wp2_with fail
              with_reducible refine (turn_13 a1 _ g1a g1b).mono ?_
              rintro e1 w8 ⟨rfl, hc8⟩
              go_wp2_with fail
              with_reducible refine (turn_22 a1 _ g1a g1b).mono ?_
              rintro e1 w9 ⟨rfl, hc9⟩
              have hst9 : Below w6.heap.size w6 w9 := bchain (bchain hc7 hc8) hc9
              have hV8 := hV6.later hst9
              have hc9' : Below VB w4 w9 := hc6'.trans (hst9.mono (Nat.le_of_lt hV6.lt))
              clear hV6 hc7 hc8 hc9 hst9 hc6' hb6
              go_upto_region 19 with fail
              generalize hq : (bits BinOp.xor IntKind.u32 (bits BinOp.xor IntKind.u32 (rotr a1 2) (rotr a1 13)) (rotr a1 22) + bits BinOp.xor IntKind.u32 (bits BinOp.xor IntKind.u32 (bits BinOp.and IntKind.u32 a1 b) (bits BinOp.and IntKind.u32 a1 c1)) (bits BinOp.and IntKind.u32 b c1)) % 4294967296 = q
              have Hq := hid (show q = V8.q ⟨a1, b, c1, d, e, f, g, zz⟩ by rw [← hq]; rfl)
              clear hq
              have d0 := hV8.cell (j := 0) (v := .int .u32 a1) rfl
              have d1 := hV8.cell (j := 1) (v := .int .u32 b) rfl
              have d2 := hV8.cell (j := 2) (v := .int .u32 c1) rfl
              have d3 := hV8.cell (j := 3) (v := .int .u32 d) rfl
              have d4 := hV8.cell (j := 4) (v := .int .u32 e) rfl
              have d5 := hV8.cell (j := 5) (v := .int .u32 f) rfl
              have d6 := hV8.cell (j := 6) (v := .int .u32 g) rfl
              have d7 := hV8.cell (j := 7) (v := .int .u32 zz) rfl
              have f0 := hV8.free 0
              have f1 := hV8.free 1
              have f2 := hV8.free 2
              have f3 := hV8.free 3
              have f4 := hV8.free 4
              have f5 := hV8.free 5
              have f6 := hV8.free 6
              have f7 := hV8.free 7
              go_wp2_with fail
              go_roundw
              case rel =>
                have e1 : vAt v (arw bs 48) (t + 1) = V8.rnd ⟨a1, b, c1, d, e, f, g, zz⟩ k' x := by rw [H_hx.out, H_hk'.out, HV'.out]; rfl
                have e2 : V8.rnd ⟨a1, b, c1, d, e, f, g, zz⟩ k' x = ⟨(p + q) % 4294967296, a1, b, c1, (d + p) % 4294967296, e, f, g⟩ := by rw [Hp.out, Hq.out]; rfl
                refine ⟨t + 1, ⟨(p + q) % 4294967296, a1, b, c1, (d + p) % 4294967296, e, f, g⟩, by omega, by go_num, hid (by rw [e1, e2]), ?_, ?_⟩
                · repeat' (first | with_reducible exact hc9' | with_reducible refine Below.setCell ?_ (by first | (simp; done) | (simp; omega) | omega) _)
                · exact (((((((hV8.set 0 _).set 1 _).set 2 _).set 3 _).set 4 _).set 5 _).set 6 _).set 7 _
              case measure => simp [intOf]; omega
            · have ht64 : t = 64 := by omega
              have hge64 : (64 : Int) ≤ (t : Int) := by omega
              obtain ⟨tv, htv⟩ : ∃ tv, tv = v' := ⟨_, rfl⟩
              rw [ht64, ← htv] at HV'
              have HT' := hid htv
              have Ht64 := hid ht64
              rw [← htv] at hV
              clear ht64 htv
              have hH5 := hH.below hcv zHV
              have hR5 := hR.below hcv zRV
              go_wp2_with fail
              refine wp_gen fun w5 hc5 => ?_
              have hV5 := hV.later hc5
              have hH6 := hH5.later hc5
              have hR6 := hR5.later hc5
              have hb5 : Below w.heap.size w w5 := bchain hbv hc5
              clear hV hH5 hR5 hc5 hbv hcv
              go_loopw [21] (fun q wr => ∃ (i : Nat), i ≤ 8 ∧ q = .int .i64 i ∧ Below w.heap.size w wr ∧ Blk wr VB 93 (tv.list.map (Value.int .u32)) ∧ Blk wr (w.heap.size + 1) 93 (List.replicate 8 (Value.int .u32 0)) ∧ Blk wr w.heap.size 93 ((addUp v.list tv.list i).map (Value.int .u32))) (fun q _ => 8 - (intOf q).toNat)
              case atStart => exact ⟨0, by omega, rfl, hb5, hV5, hR6, hH6⟩
              case round =>
                clear hb5 hV5 hR6 hH6
                obtain ⟨i, hi8, rfl, hbz, hVz, hRz, hHz⟩ := hrel
                by_cases hl8 : i < 8
                · have hl8' : (i : Int) < 8 := by omega
                  have hli := hid (addUp_len v.list tv.list i)
                  have cH := hHz.cellI (j := i) (by rw [hli.out]; exact hl8)
                  have cV := hVz.cellI (j := i) (by exact hl8)
                  have fH := hHz.free i
                  obtain ⟨y, hy⟩ : ∃ y, y = (addUp v.list tv.list i)[i]?.getD 0 := ⟨_, rfl⟩
                  obtain ⟨x, hx⟩ : ∃ x, x = tv.list[i]?.getD 0 := ⟨_, rfl⟩
                  rw [← hy] at cH
                  rw [← hx] at cV
                  have H_hx := hid hx
                  have H_hy := hid hy
                  clear hx hy
                  go_wp2_with fail
                  go_region
                  all_goals go_wp2_with fail
                  go_roundw
                  case rel =>
                    have h2 : addUp v.list tv.list (i + 1) = (addUp v.list tv.list i).set i ((y + x) % 4294967296) := by rw [H_hx.out, H_hy.out]; rfl
                    refine ⟨i + 1, by omega, by go_num, ?_, (hVz.setFar (by simp; omega) _).drew, (hRz.setFar (by simp) _).drew, ?_⟩
                    · repeat' (first | with_reducible exact hbz | with_reducible refine Below.drew ?_ | with_reducible refine Below.setCell ?_ (by first | (simp; done) | (simp; omega) | omega) _)
                    · rw [h2]; exact (hHz.setI i _).drew
                  case measure => simp [intOf]; omega
                · have hge8 : (8 : Int) ≤ (i : Int) := by omega
                  have hi8' : i = 8 := by omega
                  have hgr : ground v.list bs = addUp v.list tv.list i := by rw [hi8', HV'.out]; rfl
                  rw [← hgr] at hHz
                  obtain ⟨u, hu⟩ := V8.of_list (ground v.list bs) (by rw [ground_len]; rfl)
                  rw [← hu] at hHz
                  have H_hu := hid hu
                  have H_hgr := hid hgr
                  have H_hi8' := hid hi8'
                  clear hu hgr hi8'
                  have m0 := hHz.cell (j := 0) (v := .int .u32 u.a) rfl
                  have m1 := hHz.cell (j := 1) (v := .int .u32 u.b) rfl
                  have m2 := hHz.cell (j := 2) (v := .int .u32 u.c) rfl
                  have m3 := hHz.cell (j := 3) (v := .int .u32 u.d) rfl
                  have m4 := hHz.cell (j := 4) (v := .int .u32 u.e) rfl
                  have m5 := hHz.cell (j := 5) (v := .int .u32 u.f) rfl
                  have m6 := hHz.cell (j := 6) (v := .int .u32 u.g) rfl
                  have m7 := hHz.cell (j := 7) (v := .int .u32 u.z) rfl
                  have r0 := hRz.cell (j := 0) (v := .int .u32 0) rfl
                  have rf0 := hRz.free 0
                  have r1 := hRz.cell (j := 1) (v := .int .u32 0) rfl
                  have rf1 := hRz.free 1
                  have r2 := hRz.cell (j := 2) (v := .int .u32 0) rfl
                  have rf2 := hRz.free 2
                  have r3 := hRz.cell (j := 3) (v := .int .u32 0) rfl
                  have rf3 := hRz.free 3
                  have r4 := hRz.cell (j := 4) (v := .int .u32 0) rfl
                  have rf4 := hRz.free 4
                  have r5 := hRz.cell (j := 5) (v := .int .u32 0) rfl
                  have rf5 := hRz.free 5
                  have r6 := hRz.cell (j := 6) (v := .int .u32 0) rfl
                  have rf6 := hRz.free 6
                  have r7 := hRz.cell (j := 7) (v := .int .u32 0) rfl
                  have rf7 := hRz.free 7
                  go_wp2_with fail
                  refine bodyPost_ret (v := .agg #[.int .u32 u.a, .int .u32 u.b, .int .u32 u.c, .int .u32 u.d, .int .u32 u.e, .int .u32 u.f, .int .u32 u.g, .int .u32 u.z]) (by simp [results, Tryd.results75, go_sem, *]) rfl ⟨u, rfl, H_hu.out, ?_⟩
                  repeat' (first | with_reducible exact hbz | with_reducible refine Below.drew ?_ | with_reducible refine Below.setCell ?_ (by first | (simp; done) | (simp; omega) | omega) _)

end Go.Proofs.YtfabcdpmnbeflaaDoor
