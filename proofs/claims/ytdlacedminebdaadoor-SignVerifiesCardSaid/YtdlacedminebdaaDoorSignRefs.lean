/- The package braidref03: what its functions compute. -/
import Derived.Test.YtdlacedminebdaaDoorSignVerify
namespace Go.Proofs.YtdlacedminebdaaDoor
set_option linter.unusedSimpArgs false
set_option linter.unusedVariables false
set_option linter.unnecessarySimpa false
open Go.RowKit

theorem MsgIn.on {w : World} {a : Option Addr} {n : Nat} {bs : List Int} (h : MsgIn w a n bs) (p : Regrown) : MsgIn (wOn w p) a n bs := h.later (below_later w p)
theorem TabK.on {w : World} (h : TabK w) (p : Regrown) : TabK (wOn w p) := h.later (below_later w p)

set_option maxRecDepth 100000 in
set_option maxHeartbeats 2000000 in
theorem rnumber_any (xs : List Int) (a : Option Addr) (n c : Nat) (w : World) (hm : MsgIn w a n xs) (hn : n ≤ 20000) :
    Calls Tryd.prog 49 #[.slice a n c] w fun e w' =>
      e = .returned (.int .u64 (numL xs)) ∧ Below w.heap.size w w' := by
  obtain ⟨d, hdd⟩ : ∃ d, ofL xs = d := ⟨_, rfl⟩
  have hd32 : d.length = 32 := by rw [← hdd]; exact ofL_len _
  have hdb : Bytes8 d := by rw [← hdd]; exact ofL_bytes _
  obtain ⟨dv, hdv⟩ : ∃ dv, d.map (Value.int .u8) = dv := ⟨_, rfl⟩
  have hr : dv.length = (List.replicate 32 (Value.int .u8 0)).length := by rw [← hdv, List.length_map, hd32]; rfl
  have hiv : (Tryd.prog.info? 68).map (·.size) = some dv.length := by rw [← hdv, List.length_map, hd32]; exact info32
  have hov : ∀ x ∈ dv, x.oneCell' = true := by rw [← hdv]; exact oneCell_ints _ _
  have hnum : numL xs = numK d 8 := by rw [← hdd]; rfl
  have H_hdd := Box.mk hdd
  have H_hr := Box.mk hr
  have H_hiv := Box.mk hiv
  have H_hov := Box.mk hov
  have H_hnum := Box.mk hnum
  clear hdd hr hiv hov hnum
  go_enter Tryd.func49, Tryd.ntmps49
  have hb0 := Below.refl w.heap.size w
  go_wp2_with fail
  with_reducible refine (of_any xs a n c _ hm.len hm.cells hm.bytes (by omega)).mono ?_
  rintro e w1 ⟨rfl, hc1⟩
  have hb1 : Below w.heap.size w w1 := bchain (by repeat' (first | with_reducible exact hb0 | with_reducible refine Below.drew ?_ | with_reducible refine below_drewN ?_ _ | with_reducible refine Below.alloc ?_ (by have := hb0.size; first | (simp; done) | (simp; omega) | omega) _ | with_reducible refine Below.setCell ?_ (by first | (simp; done) | (simp; omega) | omega) _)) hc1
  clear hc1 hb0
  rw [H_hdd.out, hdv]
  have hN2 := Blk.new w1 w1.heap.size (List.replicate 32 (Value.int .u8 0)) 68 rfl
  go_upto_region 2 with (refine wpList_store_blk rfl 68 _ _ rfl w1.heap.size (by first | rfl | (simp [Act.eval]; done) | (go_simp; done)) 68 _ dv (by first | rfl | (simp [Act.eval]; done) | (go_simp; done)) hN2 H_hr.out H_hiv.out H_hov.out ?_; intro w3 hA3 he; have HW := hid he; clear he)
  have hc3 : Below w1.heap.size w1 w3 := HW.out ▸ below_setCells (Nat.le_refl _) _ _ _ ((Below.refl _ _).alloc (Nat.le_refl _) _)
  have hb3 : Below w.heap.size w w3 := bchain hb1 hc3
  clear hN2 HW hc3
  rw [← hdv] at hA3
  clear hdv
  go_wp2_with fail
  go_loopw [4, 5] (fun s q wr => ∃ (k : Nat), k ≤ 8 ∧ q = .int .i64 k ∧ s = .int .u64 (numK d k) ∧ wr = w3) (fun _ q _ => 8 - (intOf q).toNat)
  case atStart => exact ⟨0, Nat.zero_le _, rfl, rfl, rfl⟩
  case round =>
    obtain ⟨j, hj, rfl, rfl, rfl⟩ := hrel
    by_cases hlt : j < 8
    · have hjI : (j : Int) < 8 := by omega
      have cA := hA3.cellI (j := j) (by rw [hd32]; omega)
      have hn1 := numK_rng hdb j
      have hn2 : numK d j < 72057594037927936 := by
        have h7 : ∀ i : Fin 8, (256 : Int) ^ i.val ≤ 72057594037927936 := by decide
        have := h7 ⟨j, hlt⟩
        simp only at this
        omega
      have hy8 := hdb.at j
      have hN := (show numK d (j + 1) = numK d j * 256 + d[j]?.getD 0 from rfl)
      obtain ⟨hn0, _⟩ := hn1
      obtain ⟨y, hy⟩ : ∃ y, d[j]?.getD 0 = y := ⟨_, rfl⟩
      obtain ⟨z, hz⟩ : ∃ z, numK d j = z := ⟨_, rfl⟩
      rw [hy] at cA hy8
      rw [hy, hz] at hN
      rw [hz] at hn0 hn2
      obtain ⟨hy1, hy2⟩ := hy8
      have e1 : IntKind.u64.wrap (256 * z) = 256 * z := by rw [IntKind.wrap_u64]; omega
      have e2 : IntKind.u64.wrap (256 * z + y) = 256 * z + y := by rw [IntKind.wrap_u64]; omega
      rw [hz]
      have H_hy := Box.mk hy
      have H_hz := Box.mk hz
      have H_hN := Box.mk hN
      clear hy hz hN
      go_wp2_with fail
      go_roundw
      case rel => exact ⟨j + 1, by omega, by go_num, by rw [H_hN.out, Int.mul_comm], by first | rfl | trivial⟩
      case measure => simp [intOf]; omega
    · have hge : (8 : Int) ≤ (j : Int) := by omega
      have hj8 : j = 8 := by omega
      rw [hj8, ← H_hnum.out]
      have H_hj8 := Box.mk hj8
      clear hj8
      go_wp2_with fail
      go_ret
      exact ⟨rfl, hb3⟩

theorem rfour_any (x : Int) (w : World) (h0 : 0 ≤ x) (h4 : x < 4294967296) :
    Calls Tryd.prog 48 #[.int .u32 x] w fun e w' =>
      ∃ b, e = .returned (.slice (some ⟨b, 0, none⟩) 4 4) ∧ CellsAt w' (some ⟨b, 0, none⟩) ((four x).map (Value.int .u8)) ∧ Below w.heap.size w w' := by
  have e4 : x / 16777216 % 256 = x / 16777216 := by omega
  go_enter Tryd.func48, Tryd.ntmps48
  have hb0 := Below.refl w.heap.size w
  go_wp2_with fail
  go_ret
  exact ⟨_, rfl, cellsAt_newL _ _ _ (by simp [four, e4]), (Below.refl _ _).alloc (Nat.le_refl _) _⟩

theorem rkey_any (s : Int) (w : World) (h0 : 0 ≤ s) (h4 : s < 4294967296) :
    Calls Tryd.prog 32 #[.int .u32 s] w fun e w' =>
      e = .returned (.int .u32 (pubK s)) ∧ Below w.heap.size w w' := by
  obtain ⟨k, hk⟩ : ∃ k : Nat, s.toNat = k := ⟨_, rfl⟩
  have hs : s = (k : Int) := by omega
  have hp : pubK s = gpw 4 k 1000000007 := by unfold pubK; rw [hk]
  rw [hp]
  subst hs
  clear hp hk
  go_enter Tryd.func32, Tryd.ntmps32
  have hb0 := Below.refl w.heap.size w
  go_wp2_with fail
  refine (rbase_any k _ (by omega)).mono ?_
  rintro e w' ⟨rfl, rfl⟩
  go_wp2_with fail
  go_ret
  exact ⟨rfl, by repeat' (first | with_reducible exact hb0 | with_reducible refine Below.drew ?_ | with_reducible refine below_drewN ?_ _ | with_reducible refine Below.alloc ?_ (by have := hb0.size; first | (simp; done) | (simp; omega) | omega) _ | with_reducible refine Below.setCell ?_ (by first | (simp; done) | (simp; omega) | omega) _)⟩


set_option maxRecDepth 100000 in
set_option maxHeartbeats 2000000 in
theorem rnonce_any (s : Int) (bs : List Int) (a : Option Addr) (n c : Nat) (w : World) (h0 : 0 ≤ s) (h4 : s < 4294967296) (hm : MsgIn w a n bs) (hn : n ≤ 9991) :
    Calls Tryd.prog 34 #[.int .u32 s, .slice a n c] w fun e w' =>
      e = .returned (.int .u32 (nonP s bs)) ∧ Below w.heap.size w w' := by
  obtain ⟨i0, hi, hz0, hz1, hz2⟩ := info_parts info_u8
  obtain ⟨xs, hxs⟩ : ∃ xs, nonX s bs = xs := ⟨_, rfl⟩
  obtain ⟨hy1, hy2⟩ := numL_rng xs
  have hR : nonP s bs = numL xs % 500000002 + 1 := by rw [← hxs]; rfl
  obtain ⟨z, hz⟩ : ∃ z, numL xs = z := ⟨_, rfl⟩
  rw [hz] at hy1 hy2 hR
  obtain ⟨q, hq⟩ : ∃ q, z % 500000002 = q := ⟨_, rfl⟩
  have hq1 : 0 ≤ q := by omega
  have hq2 : q < 500000002 := by omega
  rw [hq] at hR
  have e1 : IntKind.u32.wrap q = q := by rw [IntKind.wrap_u32]; omega
  have e2 : IntKind.u32.wrap (q + 1) = q + 1 := by rw [IntKind.wrap_u32]; omega
  have hx8 : Bytes8 xs := by
    rw [← hxs]
    refine Bytes8.append (fun y hy => ?_) hm.bytes
    rcases List.mem_cons.1 hy with h | h
    · omega
    · exact fours_bytes _ y h
  have hxl : n + 5 = xs.length := by have := hm.len; rw [← hxs, nonX, List.length_append, List.length_cons, fours_len]; simp; omega
  have hxm : xs.map (Value.int .u8) = [.int .u8 110] ++ (four s).map (Value.int .u8) ++ bs.map (Value.int .u8) := by rw [← hxs, nonX]; simp [fours]
  have H_hxs := Box.mk hxs
  have H_hz := Box.mk hz
  have H_hR := Box.mk hR
  have H_hm := Box.mk hm
  have H_hx8 := Box.mk hx8
  have H_hxl := Box.mk hxl
  have H_hxm := Box.mk hxm
  have H_e1 := Box.mk e1
  have H_e2 := Box.mk e2
  have H_hq := Box.mk hq
  clear hxs hz hR hm hx8 hxl hxm e1 e2 hq
  go_enter Tryd.func34, Tryd.ntmps34
  have hb0 := Below.refl w.heap.size w
  go_wp2_with fail
  with_reducible refine (rfour_any s _ h0 h4).mono ?_
  rintro e w1 ⟨b, rfl, k1, hc1⟩
  have o1 : OwnX w1 w.heap.size 5 1 (.slice (some ⟨w.heap.size, 0, none⟩) 1 1) 1 [.int .u8 110] := OwnX.later (OwnX.made w [.int .u8 110] _ _ 1 1 (Nat.le_refl _) (by simp [maxLen]) rfl) hc1
  have hb1 : Below w.heap.size w w1 := bchain (by repeat' (first | with_reducible exact hb0 | with_reducible refine Below.drew ?_ | with_reducible refine below_drewN ?_ _ | with_reducible refine Below.alloc ?_ (by have := hb0.size; first | (simp; done) | (simp; omega) | omega) _ | with_reducible refine Below.setCell ?_ (by first | (simp; done) | (simp; omega) | omega) _)) hc1
  clear hc1
  go_wp2_with (at_builtin; refine stop ?_)
  refine Stop.go ?_
  refine wpList_append_x _ rfl _ _ 23 rfl w.heap.size 5 i0 (.int .u8 0) 1 1 Tryd.underlying23 hi hz0 hz1 hz2 rfl (by decide) (.slice (some ⟨w.heap.size, 0, none⟩) 1 1) 1 _ rfl o1 (some ⟨b, 0, none⟩) 4 _ ((four s).map (Value.int .u8)) rfl rfl k1 (oneCell_ints _ _) (by unfold maxLen; omega) (by omega) (by have := hb1.size; omega) ?_
  intro a2 c2 w2 o2 hg2 hk2
  have hb2 : Below w.heap.size w w2 := below_grownX hb1 hg2 hb1.size (fun q h => (o1.lt q h).1)
  clear hg2 hk2 o1 k1
  go_wp2_with (at_builtin; refine stop ?_)
  refine Stop.go ?_
  refine wpList_append_x _ rfl _ _ 23 rfl w.heap.size 5 i0 (.int .u8 0) 1 1 Tryd.underlying23 hi hz0 hz1 hz2 rfl (by decide) (.slice a2 (1 + 4) c2) (1 + 4) _ rfl o2 a n _ (bs.map (Value.int .u8)) rfl (by rw [List.length_map, ← H_hm.out.len, Nat.mul_one]) (H_hm.out.later hb2).cells (oneCell_ints _ _) (by unfold maxLen; omega) (by omega) (by have := hb2.size; omega) ?_
  intro a3 c3 w3 o3 hg3 hk3
  have hb3 : Below w.heap.size w w3 := below_grownX hb2 hg3 hb2.size (fun q h => (o2.lt q h).1)
  clear hg3 hk3 o2
  rw [← H_hxm.out] at o3
  go_wp2_with fail
  with_reducible refine (rnumber_any xs a3 (1 + 4 + n) c3 _ ⟨by have := H_hxl.out; omega, o3.cellsAt, H_hx8.out⟩ (by omega)).mono ?_
  rintro e w4 ⟨rfl, hc4⟩
  have hb4 : Below w.heap.size w w4 := bchain hb3 hc4
  clear hc4 o3
  rw [H_hz.out]
  have e1 := H_e1.out
  have e2 := H_e2.out
  have hq := H_hq.out
  go_wp2_with fail
  go_ret
  exact ⟨by rw [H_hR.out]; rfl, hb4⟩

set_option maxRecDepth 100000 in
set_option maxHeartbeats 2000000 in
theorem rchallenge_any (r y : Int) (bs : List Int) (a : Option Addr) (n c : Nat) (w : World) (r0 : 0 ≤ r) (r4 : r < 4294967296) (y0 : 0 ≤ y) (y4 : y < 4294967296) (hm : MsgIn w a n bs) (hn : n ≤ 9991) :
    Calls Tryd.prog 35 #[.int .u32 r, .int .u32 y, .slice a n c] w fun e w' =>
      e = .returned (.int .u32 (chaP r y bs)) ∧ Below w.heap.size w w' := by
  obtain ⟨i0, hi, hz0, hz1, hz2⟩ := info_parts info_u8
  obtain ⟨xs, hxs⟩ : ∃ xs, chaX r y bs = xs := ⟨_, rfl⟩
  obtain ⟨hy1, hy2⟩ := numL_rng xs
  have hR : chaP r y bs = numL xs % 500000003 := by rw [← hxs]; rfl
  obtain ⟨z, hz⟩ : ∃ z, numL xs = z := ⟨_, rfl⟩
  rw [hz] at hy1 hy2 hR
  obtain ⟨q, hq⟩ : ∃ q, z % 500000003 = q := ⟨_, rfl⟩
  have hq1 : 0 ≤ q := by omega
  have hq2 : q < 500000003 := by omega
  rw [hq] at hR
  have e1 : IntKind.u32.wrap q = q := by rw [IntKind.wrap_u32]; omega
  have hx8 : Bytes8 xs := by
    rw [← hxs]
    refine Bytes8.append (fun y hy => ?_) hm.bytes
    rcases List.mem_cons.1 hy with h | h
    · omega
    · exact fours_bytes _ y h
  have hxl : n + 9 = xs.length := by have := hm.len; rw [← hxs, chaX, List.length_append, List.length_cons, fours_len]; simp; omega
  have hxm : xs.map (Value.int .u8) = [.int .u8 99] ++ (four r).map (Value.int .u8) ++ (four y).map (Value.int .u8) ++ bs.map (Value.int .u8) := by rw [← hxs, chaX]; simp [fours]
  have H_hxs := Box.mk hxs
  have H_hz := Box.mk hz
  have H_hR := Box.mk hR
  have H_hm := Box.mk hm
  have H_hx8 := Box.mk hx8
  have H_hxl := Box.mk hxl
  have H_hxm := Box.mk hxm
  have H_e1 := Box.mk e1
  have H_hq := Box.mk hq
  clear hxs hz hR hm hx8 hxl hxm e1 hq
  go_enter Tryd.func35, Tryd.ntmps35
  have hb0 := Below.refl w.heap.size w
  go_wp2_with fail
  with_reducible refine (rfour_any r _ r0 r4).mono ?_
  rintro e w1 ⟨b, rfl, k1, hc1⟩
  have o1 : OwnX w1 w.heap.size 5 1 (.slice (some ⟨w.heap.size, 0, none⟩) 1 1) 1 [.int .u8 99] := OwnX.later (OwnX.made w [.int .u8 99] _ _ 1 1 (Nat.le_refl _) (by simp [maxLen]) rfl) hc1
  have hb1 : Below w.heap.size w w1 := bchain (by repeat' (first | with_reducible exact hb0 | with_reducible refine Below.drew ?_ | with_reducible refine below_drewN ?_ _ | with_reducible refine Below.alloc ?_ (by have := hb0.size; first | (simp; done) | (simp; omega) | omega) _ | with_reducible refine Below.setCell ?_ (by first | (simp; done) | (simp; omega) | omega) _)) hc1
  clear hc1
  go_wp2_with (at_builtin; refine stop ?_)
  refine Stop.go ?_
  refine wpList_append_x _ rfl _ _ 23 rfl w.heap.size 5 i0 (.int .u8 0) 1 1 Tryd.underlying23 hi hz0 hz1 hz2 rfl (by decide) (.slice (some ⟨w.heap.size, 0, none⟩) 1 1) 1 _ rfl o1 (some ⟨b, 0, none⟩) 4 _ ((four r).map (Value.int .u8)) rfl rfl k1 (oneCell_ints _ _) (by unfold maxLen; omega) (by omega) (by have := hb1.size; omega) ?_
  intro a2 c2 w2 o2 hg2 hk2
  have hb2 : Below w.heap.size w w2 := below_grownX hb1 hg2 hb1.size (fun q h => (o1.lt q h).1)
  clear hg2 hk2 o1 k1
  go_wp2_with fail
  with_reducible refine (rfour_any y _ y0 y4).mono ?_
  rintro e w3 ⟨b3, rfl, k3, hc3⟩
  replace o2 := o2.later hc3
  have hb3 : Below w.heap.size w w3 := bchain hb2 hc3
  clear hc3
  go_wp2_with (at_builtin; refine stop ?_)
  refine Stop.go ?_
  refine wpList_append_x _ rfl _ _ 23 rfl w.heap.size 5 i0 (.int .u8 0) 1 1 Tryd.underlying23 hi hz0 hz1 hz2 rfl (by decide) (.slice a2 (1 + 4) c2) (1 + 4) _ rfl o2 (some ⟨b3, 0, none⟩) 4 _ ((four y).map (Value.int .u8)) rfl rfl k3 (oneCell_ints _ _) (by unfold maxLen; omega) (by omega) (by have := hb3.size; omega) ?_
  intro a4 c4 w4 o4 hg4 hk4
  have hb4 : Below w.heap.size w w4 := below_grownX hb3 hg4 hb3.size (fun q h => (o2.lt q h).1)
  clear hg4 hk4 o2 k3
  go_wp2_with (at_builtin; refine stop ?_)
  refine Stop.go ?_
  refine wpList_append_x _ rfl _ _ 23 rfl w.heap.size 5 i0 (.int .u8 0) 1 1 Tryd.underlying23 hi hz0 hz1 hz2 rfl (by decide) (.slice a4 (1 + 4 + 4) c4) (1 + 4 + 4) _ rfl o4 a n _ (bs.map (Value.int .u8)) rfl (by rw [List.length_map, ← H_hm.out.len, Nat.mul_one]) (H_hm.out.later hb4).cells (oneCell_ints _ _) (by unfold maxLen; omega) (by omega) (by have := hb4.size; omega) ?_
  intro a5 c5 w5 o5 hg5 hk5
  have hb5 : Below w.heap.size w w5 := below_grownX hb4 hg5 hb4.size (fun q h => (o4.lt q h).1)
  clear hg5 hk5 o4
  rw [← H_hxm.out] at o5
  go_wp2_with fail
  with_reducible refine (rnumber_any xs a5 (1 + 4 + 4 + n) c5 _ ⟨by have := H_hxl.out; omega, o5.cellsAt, H_hx8.out⟩ (by omega)).mono ?_
  rintro e w6 ⟨rfl, hc6⟩
  have hb6 : Below w.heap.size w w6 := bchain hb5 hc6
  clear hc6 o5
  rw [H_hz.out]
  have e1 := H_e1.out
  have hq := H_hq.out
  go_wp2_with fail
  go_ret
  exact ⟨by rw [H_hR.out]; rfl, hb6⟩

end Go.Proofs.YtdlacedminebdaaDoor
