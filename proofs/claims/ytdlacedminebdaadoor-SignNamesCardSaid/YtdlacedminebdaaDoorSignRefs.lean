/- The package braidref03: what its functions compute. -/
import Derived.Test.YtdlacedminebdaaDoorSignHash
import Derived.Test.YtdlacedminebdaaDoorDigCard
namespace Go.Proofs.YtdlacedminebdaaDoor
set_option linter.unusedSimpArgs false
set_option linter.unusedVariables false
set_option linter.unnecessarySimpa false
open Go.RowKit

theorem MsgIn.on {w : World} {a : Option Addr} {n : Nat} {bs : List Int} (h : MsgIn w a n bs) (p : Regrown) : MsgIn (wOn w p) a n bs := h.later (below_later w p)
theorem TabK.on {w : World} (h : TabK w) (p : Regrown) : TabK (wOn w p) := h.later (below_later w p)

set_option maxRecDepth 100000 in
set_option maxHeartbeats 2000000 in
theorem rnumber_any (xs : List Int) (a : Option Addr) (n c : Nat) (w : World) (hm : MsgIn w a n xs) (hn : n ≤ 20000) :
    Calls Tryd.prog 49 #[.slice a n c] w fun e w' =>
      e = .returned (.int .u64 (numL xs)) ∧ Below w.heap.size w w' := by
  obtain ⟨d, hdd⟩ : ∃ d, ofL xs = d := ⟨_, rfl⟩
  have hd32 : d.length = 32 := by rw [← hdd]; exact ofL_len _
  have hdb : Bytes8 d := by rw [← hdd]; exact ofL_bytes _
  obtain ⟨dv, hdv⟩ : ∃ dv, d.map (Value.int .u8) = dv := ⟨_, rfl⟩
  have hr : dv.length = (List.replicate 32 (Value.int .u8 0)).length := by rw [← hdv, List.length_map, hd32]; rfl
  have hiv : (Tryd.prog.info? 68).map (·.size) = some dv.length := by rw [← hdv, List.length_map, hd32]; exact info32
  have hov : ∀ x ∈ dv, x.oneCell' = true := by rw [← hdv]; exact oneCell_ints _ _
  have hnum : numL xs = numK d 8 := by rw [← hdd]; rfl
  have H_hdd := Box.mk hdd
  have H_hr := Box.mk hr
  have H_hiv := Box.mk hiv
  have H_hov := Box.mk hov
  have H_hnum := Box.mk hnum
  clear hdd hr hiv hov hnum
  go_enter Tryd.func49, Tryd.ntmps49
  have hb0 := Below.refl w.heap.size w
  go_wp2_with fail
  with_reducible refine (of_any xs a n c _ hm.len hm.cells hm.bytes (by omega)).mono ?_
  rintro e w1 ⟨rfl, hc1⟩
  have hb1 : Below w.heap.size w w1 := bchain (by repeat' (first | with_reducible exact hb0 | with_reducible refine Below.drew ?_ | with_reducible refine below_drewN ?_ _ | with_reducible refine Below.alloc ?_ (by have := hb0.size; first | (simp; done) | (simp; omega) | omega) _ | with_reducible refine Below.setCell ?_ (by first | (simp; done) | (simp; omega) | omega) _)) hc1
  clear hc1 hb0
  rw [H_hdd.out, hdv]
  have hN2 := Blk.new w1 w1.heap.size (List.replicate 32 (Value.int .u8 0)) 68 rfl
  go_upto_region 2 with (refine wpList_store_blk rfl 68 _ _ rfl w1.heap.size (by first | rfl | (simp [Act.eval]; done) | (go_simp; done)) 68 _ dv (by first | rfl | (simp [Act.eval]; done) | (go_simp; done)) hN2 H_hr.out H_hiv.out H_hov.out ?_; intro w3 hA3 he; have HW := hid he; clear he)
  have hc3 : Below w1.heap.size w1 w3 := HW.out ▸ below_setCells (Nat.le_refl _) _ _ _ ((Below.refl _ _).alloc (Nat.le_refl _) _)
  have hb3 : Below w.heap.size w w3 := bchain hb1 hc3
  clear hN2 HW hc3
  rw [← hdv] at hA3
  clear hdv
  go_wp2_with fail
  go_loopw [4, 5] (fun s q wr => ∃ (k : Nat), k ≤ 8 ∧ q = .int .i64 k ∧ s = .int .u64 (numK d k) ∧ wr = w3) (fun _ q _ => 8 - (intOf q).toNat)
  case atStart => exact ⟨0, Nat.zero_le _, rfl, rfl, rfl⟩
  case round =>
    obtain ⟨j, hj, rfl, rfl, rfl⟩ := hrel
    by_cases hlt : j < 8
    · have hjI : (j : Int) < 8 := by omega
      have cA := hA3.cellI (j := j) (by rw [hd32]; omega)
      have hn1 := numK_rng hdb j
      have hn2 : numK d j < 72057594037927936 := by
        have h7 : ∀ i : Fin 8, (256 : Int) ^ i.val ≤ 72057594037927936 := by decide
        have := h7 ⟨j, hlt⟩
        simp only at this
        omega
      have hy8 := hdb.at j
      have hN := (show numK d (j + 1) = numK d j * 256 + d[j]?.getD 0 from rfl)
      obtain ⟨hn0, _⟩ := hn1
      obtain ⟨y, hy⟩ : ∃ y, d[j]?.getD 0 = y := ⟨_, rfl⟩
      obtain ⟨z, hz⟩ : ∃ z, numK d j = z := ⟨_, rfl⟩
      rw [hy] at cA hy8
      rw [hy, hz] at hN
      rw [hz] at hn0 hn2
      obtain ⟨hy1, hy2⟩ := hy8
      have e1 : IntKind.u64.wrap (256 * z) = 256 * z := by rw [IntKind.wrap_u64]; omega
      have e2 : IntKind.u64.wrap (256 * z + y) = 256 * z + y := by rw [IntKind.wrap_u64]; omega
      rw [hz]
      have H_hy := Box.mk hy
      have H_hz := Box.mk hz
      have H_hN := Box.mk hN
      clear hy hz hN
      go_wp2_with fail
      go_roundw
      case rel => exact ⟨j + 1, by omega, by go_num, by rw [H_hN.out, Int.mul_comm], by first | rfl | trivial⟩
      case measure => simp [intOf]; omega
    · have hge : (8 : Int) ≤ (j : Int) := by omega
      have hj8 : j = 8 := by omega
      rw [hj8, ← H_hnum.out]
      have H_hj8 := Box.mk hj8
      clear hj8
      go_wp2_with fail
      go_ret
      exact ⟨rfl, hb3⟩

theorem rfour_any (x : Int) (w : World) (h0 : 0 ≤ x) (h4 : x < 4294967296) :
    Calls Tryd.prog 48 #[.int .u32 x] w fun e w' =>
      ∃ b, e = .returned (.slice (some ⟨b, 0, none⟩) 4 4) ∧ CellsAt w' (some ⟨b, 0, none⟩) ((four x).map (Value.int .u8)) ∧ Below w.heap.size w w' := by
  have e4 : x / 16777216 % 256 = x / 16777216 := by omega
  go_enter Tryd.func48, Tryd.ntmps48
  have hb0 := Below.refl w.heap.size w
  go_wp2_with fail
  go_ret
  exact ⟨_, rfl, cellsAt_newL _ _ _ (by simp [four, e4]), (Below.refl _ _).alloc (Nat.le_refl _) _⟩

theorem rkey_any (s : Int) (w : World) (h0 : 0 ≤ s) (h4 : s < 4294967296) :
    Calls Tryd.prog 32 #[.int .u32 s] w fun e w' =>
      e = .returned (.int .u32 (pubK s)) ∧ Below w.heap.size w w' := by
  obtain ⟨k, hk⟩ : ∃ k : Nat, s.toNat = k := ⟨_, rfl⟩
  have hs : s = (k : Int) := by omega
  have hp : pubK s = gpw 4 k 1000000007 := by unfold pubK; rw [hk]
  rw [hp]
  subst hs
  clear hp hk
  go_enter Tryd.func32, Tryd.ntmps32
  have hb0 := Below.refl w.heap.size w
  go_wp2_with fail
  refine (rbase_any k _ (by omega)).mono ?_
  rintro e w' ⟨rfl, rfl⟩
  go_wp2_with fail
  go_ret
  exact ⟨rfl, by repeat' (first | with_reducible exact hb0 | with_reducible refine Below.drew ?_ | with_reducible refine below_drewN ?_ _ | with_reducible refine Below.alloc ?_ (by have := hb0.size; first | (simp; done) | (simp; omega) | omega) _ | with_reducible refine Below.setCell ?_ (by first | (simp; done) | (simp; omega) | omega) _)⟩


set_option maxRecDepth 100000 in
set_option maxHeartbeats 2000000 in
theorem rnonce_any (s : Int) (bs : List Int) (a : Option Addr) (n c : Nat) (w : World) (h0 : 0 ≤ s) (h4 : s < 4294967296) (hm : MsgIn w a n bs) (hn : n ≤ 9991) :
    Calls Tryd.prog 34 #[.int .u32 s, .slice a n c] w fun e w' =>
      e = .returned (.int .u32 (nonP s bs)) ∧ Below w.heap.size w w' := by
  obtain ⟨i0, hi, hz0, hz1, hz2⟩ := info_parts info_u8
  obtain ⟨xs, hxs⟩ : ∃ xs, nonX s bs = xs := ⟨_, rfl⟩
  obtain ⟨hy1, hy2⟩ := numL_rng xs
  have hR : nonP s bs = numL xs % 500000002 + 1 := by rw [← hxs]; rfl
  obtain ⟨z, hz⟩ : ∃ z, numL xs = z := ⟨_, rfl⟩
  rw [hz] at hy1 hy2 hR
  obtain ⟨q, hq⟩ : ∃ q, z % 500000002 = q := ⟨_, rfl⟩
  have hq1 : 0 ≤ q := by omega
  have hq2 : q < 500000002 := by omega
  rw [hq] at hR
  have e1 : IntKind.u32.wrap q = q := by rw [IntKind.wrap_u32]; omega
  have e2 : IntKind.u32.wrap (q + 1) = q + 1 := by rw [IntKind.wrap_u32]; omega
  have hx8 : Bytes8 xs := by
    rw [← hxs]
    refine Bytes8.append (fun y hy => ?_) hm.bytes
    rcases List.mem_cons.1 hy with h | h
    · omega
    · exact fours_bytes _ y h
  have hxl : n + 5 = xs.length := by have := hm.len; rw [← hxs, nonX, List.length_append, List.length_cons, fours_len]; simp; omega
  have hxm : xs.map (Value.int .u8) = [.int .u8 110] ++ (four s).map (Value.int .u8) ++ bs.map (Value.int .u8) := by rw [← hxs, nonX]; simp [fours]
  have H_hxs := Box.mk hxs
  have H_hz := Box.mk hz
  have H_hR := Box.mk hR
  have H_hm := Box.mk hm
  have H_hx8 := Box.mk hx8
  have H_hxl := Box.mk hxl
  have H_hxm := Box.mk hxm
  have H_e1 := Box.mk e1
  have H_e2 := Box.mk e2
  have H_hq := Box.mk hq
  clear hxs hz hR hm hx8 hxl hxm e1 e2 hq
  go_enter Tryd.func34, Tryd.ntmps34
  have hb0 := Below.refl w.heap.size w
  go_wp2_with fail
  with_reducible refine (rfour_any s _ h0 h4).mono ?_
  rintro e w1 ⟨b, rfl, k1, hc1⟩
  have o1 : OwnX w1 w.heap.size 5 1 (.slice (some ⟨w.heap.size, 0, none⟩) 1 1) 1 [.int .u8 110] := OwnX.later (OwnX.made w [.int .u8 110] _ _ 1 1 (Nat.le_refl _) (by simp [maxLen]) rfl) hc1
  have hb1 : Below w.heap.size w w1 := bchain (by repeat' (first | with_reducible exact hb0 | with_reducible refine Below.drew ?_ | with_reducible refine below_drewN ?_ _ | with_reducible refine Below.alloc ?_ (by have := hb0.size; first | (simp; done) | (simp; omega) | omega) _ | with_reducible refine Below.setCell ?_ (by first | (simp; done) | (simp; omega) | omega) _)) hc1
  clear hc1
  go_wp2_with (at_builtin; refine stop ?_)
  refine Stop.go ?_
  refine wpList_append_x _ rfl _ _ 23 rfl w.heap.size 5 i0 (.int .u8 0) 1 1 Tryd.underlying23 hi hz0 hz1 hz2 rfl (by decide) (.slice (some ⟨w.heap.size, 0, none⟩) 1 1) 1 _ rfl o1 (some ⟨b, 0, none⟩) 4 _ ((four s).map (Value.int .u8)) rfl rfl k1 (oneCell_ints _ _) (by unfold maxLen; omega) (by omega) (by have := hb1.size; omega) ?_
  intro a2 c2 w2 o2 hg2 hk2
  have hb2 : Below w.heap.size w w2 := below_grownX hb1 hg2 hb1.size (fun q h => (o1.lt q h).1)
  clear hg2 hk2 o1 k1
  go_wp2_with (at_builtin; refine stop ?_)
  refine Stop.go ?_
  refine wpList_append_x _ rfl _ _ 23 rfl w.heap.size 5 i0 (.int .u8 0) 1 1 Tryd.underlying23 hi hz0 hz1 hz2 rfl (by decide) (.slice a2 (1 + 4) c2) (1 + 4) _ rfl o2 a n _ (bs.map (Value.int .u8)) rfl (by rw [List.length_map, ← H_hm.out.len, Nat.mul_one]) (H_hm.out.later hb2).cells (oneCell_ints _ _) (by unfold maxLen; omega) (by omega) (by have := hb2.size; omega) ?_
  intro a3 c3 w3 o3 hg3 hk3
  have hb3 : Below w.heap.size w w3 := below_grownX hb2 hg3 hb2.size (fun q h => (o2.lt q h).1)
  clear hg3 hk3 o2
  rw [← H_hxm.out] at o3
  go_wp2_with fail
  with_reducible refine (rnumber_any xs a3 (1 + 4 + n) c3 _ ⟨by have := H_hxl.out; omega, o3.cellsAt, H_hx8.out⟩ (by omega)).mono ?_
  rintro e w4 ⟨rfl, hc4⟩
  have hb4 : Below w.heap.size w w4 := bchain hb3 hc4
  clear hc4 o3
  rw [H_hz.out]
  have e1 := H_e1.out
  have e2 := H_e2.out
  have hq := H_hq.out
  go_wp2_with fail
  go_ret
  exact ⟨by rw [H_hR.out]; rfl, hb4⟩

set_option maxRecDepth 100000 in
set_option maxHeartbeats 2000000 in
theorem rchallenge_any (r y : Int) (bs : List Int) (a : Option Addr) (n c : Nat) (w : World) (r0 : 0 ≤ r) (r4 : r < 4294967296) (y0 : 0 ≤ y) (y4 : y < 4294967296) (hm : MsgIn w a n bs) (hn : n ≤ 9991) :
    Calls Tryd.prog 35 #[.int .u32 r, .int .u32 y, .slice a n c] w fun e w' =>
      e = .returned (.int .u32 (chaP r y bs)) ∧ Below w.heap.size w w' := by
  obtain ⟨i0, hi, hz0, hz1, hz2⟩ := info_parts info_u8
  obtain ⟨xs, hxs⟩ : ∃ xs, chaX r y bs = xs := ⟨_, rfl⟩
  obtain ⟨hy1, hy2⟩ := numL_rng xs
  have hR : chaP r y bs = numL xs % 500000003 := by rw [← hxs]; rfl
  obtain ⟨z, hz⟩ : ∃ z, numL xs = z := ⟨_, rfl⟩
  rw [hz] at hy1 hy2 hR
  obtain ⟨q, hq⟩ : ∃ q, z % 500000003 = q := ⟨_, rfl⟩
  have hq1 : 0 ≤ q := by omega
  have hq2 : q < 500000003 := by omega
  rw [hq] at hR
  have e1 : IntKind.u32.wrap q = q := by rw [IntKind.wrap_u32]; omega
  have hx8 : Bytes8 xs := by
    rw [← hxs]
    refine Bytes8.append (fun y hy => ?_) hm.bytes
    rcases List.mem_cons.1 hy with h | h
    · omega
    · exact fours_bytes _ y h
  have hxl : n + 9 = xs.length := by have := hm.len; rw [← hxs, chaX, List.length_append, List.length_cons, fours_len]; simp; omega
  have hxm : xs.map (Value.int .u8) = [.int .u8 99] ++ (four r).map (Value.int .u8) ++ (four y).map (Value.int .u8) ++ bs.map (Value.int .u8) := by rw [← hxs, chaX]; simp [fours]
  have H_hxs := Box.mk hxs
  have H_hz := Box.mk hz
  have H_hR := Box.mk hR
  have H_hm := Box.mk hm
  have H_hx8 := Box.mk hx8
  have H_hxl := Box.mk hxl
  have H_hxm := Box.mk hxm
  have H_e1 := Box.mk e1
  have H_hq := Box.mk hq
  clear hxs hz hR hm hx8 hxl hxm e1 hq
  go_enter Tryd.func35, Tryd.ntmps35
  have hb0 := Below.refl w.heap.size w
  go_wp2_with fail
  with_reducible refine (rfour_any r _ r0 r4).mono ?_
  rintro e w1 ⟨b, rfl, k1, hc1⟩
  have o1 : OwnX w1 w.heap.size 5 1 (.slice (some ⟨w.heap.size, 0, none⟩) 1 1) 1 [.int .u8 99] := OwnX.later (OwnX.made w [.int .u8 99] _ _ 1 1 (Nat.le_refl _) (by simp [maxLen]) rfl) hc1
  have hb1 : Below w.heap.size w w1 := bchain (by repeat' (first | with_reducible exact hb0 | with_reducible refine Below.drew ?_ | with_reducible refine below_drewN ?_ _ | with_reducible refine Below.alloc ?_ (by have := hb0.size; first | (simp; done) | (simp; omega) | omega) _ | with_reducible refine Below.setCell ?_ (by first | (simp; done) | (simp; omega) | omega) _)) hc1
  clear hc1
  go_wp2_with (at_builtin; refine stop ?_)
  refine Stop.go ?_
  refine wpList_append_x _ rfl _ _ 23 rfl w.heap.size 5 i0 (.int .u8 0) 1 1 Tryd.underlying23 hi hz0 hz1 hz2 rfl (by decide) (.slice (some ⟨w.heap.size, 0, none⟩) 1 1) 1 _ rfl o1 (some ⟨b, 0, none⟩) 4 _ ((four r).map (Value.int .u8)) rfl rfl k1 (oneCell_ints _ _) (by unfold maxLen; omega) (by omega) (by have := hb1.size; omega) ?_
  intro a2 c2 w2 o2 hg2 hk2
  have hb2 : Below w.heap.size w w2 := below_grownX hb1 hg2 hb1.size (fun q h => (o1.lt q h).1)
  clear hg2 hk2 o1 k1
  go_wp2_with fail
  with_reducible refine (rfour_any y _ y0 y4).mono ?_
  rintro e w3 ⟨b3, rfl, k3, hc3⟩
  replace o2 := o2.later hc3
  have hb3 : Below w.heap.size w w3 := bchain hb2 hc3
  clear hc3
  go_wp2_with (at_builtin; refine stop ?_)
  refine Stop.go ?_
  refine wpList_append_x _ rfl _ _ 23 rfl w.heap.size 5 i0 (.int .u8 0) 1 1 Tryd.underlying23 hi hz0 hz1 hz2 rfl (by decide) (.slice a2 (1 + 4) c2) (1 + 4) _ rfl o2 (some ⟨b3, 0, none⟩) 4 _ ((four y).map (Value.int .u8)) rfl rfl k3 (oneCell_ints _ _) (by unfold maxLen; omega) (by omega) (by have := hb3.size; omega) ?_
  intro a4 c4 w4 o4 hg4 hk4
  have hb4 : Below w.heap.size w w4 := below_grownX hb3 hg4 hb3.size (fun q h => (o2.lt q h).1)
  clear hg4 hk4 o2 k3
  go_wp2_with (at_builtin; refine stop ?_)
  refine Stop.go ?_
  refine wpList_append_x _ rfl _ _ 23 rfl w.heap.size 5 i0 (.int .u8 0) 1 1 Tryd.underlying23 hi hz0 hz1 hz2 rfl (by decide) (.slice a4 (1 + 4 + 4) c4) (1 + 4 + 4) _ rfl o4 a n _ (bs.map (Value.int .u8)) rfl (by rw [List.length_map, ← H_hm.out.len, Nat.mul_one]) (H_hm.out.later hb4).cells (oneCell_ints _ _) (by unfold maxLen; omega) (by omega) (by have := hb4.size; omega) ?_
  intro a5 c5 w5 o5 hg5 hk5
  have hb5 : Below w.heap.size w w5 := below_grownX hb4 hg5 hb4.size (fun q h => (o4.lt q h).1)
  clear hg5 hk5 o4
  rw [← H_hxm.out] at o5
  go_wp2_with fail
  with_reducible refine (rnumber_any xs a5 (1 + 4 + 4 + n) c5 _ ⟨by have := H_hxl.out; omega, o5.cellsAt, H_hx8.out⟩ (by omega)).mono ?_
  rintro e w6 ⟨rfl, hc6⟩
  have hb6 : Below w.heap.size w w6 := bchain hb5 hc6
  clear hc6 o5
  rw [H_hz.out]
  have e1 := H_e1.out
  have hq := H_hq.out
  go_wp2_with fail
  go_ret
  exact ⟨by rw [H_hR.out]; rfl, hb6⟩


theorem rcheck_ok (s : Int) (w : World) (h1 : 1 ≤ s) (h2 : s < 500000003) :
    Calls Tryd.prog 21 #[.int .u32 s] w fun e w' =>
      e = .returned (.int .i64 0) ∧ w = w' := by
  have h3 : (s == 0) = false := by simp; omega
  go_enter Tryd.func21, Tryd.ntmps21
  have hb0 := Below.refl w.heap.size w
  go_wp2_with fail
  go_ret
  exact ⟨rfl, rfl⟩
theorem rcheck_no (s : Int) (w : World) (h0 : 0 ≤ s) (h4 : s < 4294967296) (h : s = 0 ∨ 500000003 ≤ s) :
    Calls Tryd.prog 21 #[.int .u32 s] w fun e w' =>
      e = .returned (.int .i64 2) ∧ w = w' := by
  rcases h with h | h
  · subst h
    go_enter Tryd.func21, Tryd.ntmps21
    have hb0 := Below.refl w.heap.size w
    go_wp2_with fail
    go_ret
    exact ⟨rfl, rfl⟩
  · have h3 : (s == 0) = false := by simp; omega
    go_enter Tryd.func21, Tryd.ntmps21
    have hb0 := Below.refl w.heap.size w
    go_wp2_with fail
    go_ret
    exact ⟨rfl, rfl⟩

theorem rpublic_ok (s : Int) (w : World) (h1 : 1 ≤ s) (h2 : s < 500000003) :
    Calls Tryd.prog 13 #[.int .u32 s] w fun e w' =>
      e = .returned (.tuple #[.int .u32 (pubK s), .int .i64 0]) ∧ Below w.heap.size w w' := by
  go_enter Tryd.func13, Tryd.ntmps13
  have hb0 := Below.refl w.heap.size w
  go_wp2_with fail
  refine (rcheck_ok s _ h1 h2).mono ?_
  rintro e w' ⟨rfl, rfl⟩
  go_wp2_with fail
  with_reducible refine (rkey_any s _ (by omega) (by omega)).mono ?_
  rintro e w1 ⟨rfl, hc1⟩
  have hb1 : Below w.heap.size w w1 := bchain (by repeat' (first | with_reducible exact hb0 | with_reducible refine Below.drew ?_ | with_reducible refine below_drewN ?_ _ | with_reducible refine Below.alloc ?_ (by have := hb0.size; first | (simp; done) | (simp; omega) | omega) _ | with_reducible refine Below.setCell ?_ (by first | (simp; done) | (simp; omega) | omega) _)) hc1
  clear hc1 hb0
  go_wp2_with fail
  go_ret2
  exact ⟨rfl, by repeat' (first | with_reducible exact hb1 | with_reducible refine Below.drew ?_ | with_reducible refine below_drewN ?_ _ | with_reducible refine Below.alloc ?_ (by have := hb1.size; first | (simp; done) | (simp; omega) | omega) _ | with_reducible refine Below.setCell ?_ (by first | (simp; done) | (simp; omega) | omega) _)⟩
theorem rpublic_no (s : Int) (w : World) (h0 : 0 ≤ s) (h4 : s < 4294967296) (h : s = 0 ∨ 500000003 ≤ s) :
    Calls Tryd.prog 13 #[.int .u32 s] w fun e w' =>
      e = .returned (.tuple #[.int .u32 0, .int .i64 2]) ∧ Below w.heap.size w w' := by
  have H_h := Box.mk h
  clear h
  go_enter Tryd.func13, Tryd.ntmps13
  have hb0 := Below.refl w.heap.size w
  go_wp2_with fail
  refine (rcheck_no s _ h0 h4 H_h.out).mono ?_
  rintro e w' ⟨rfl, rfl⟩
  go_wp2_with fail
  refine (rcheck_no s _ h0 h4 H_h.out).mono ?_
  rintro e w' ⟨rfl, rfl⟩
  go_wp2_with fail
  go_ret2
  exact ⟨rfl, by repeat' (first | with_reducible exact hb0 | with_reducible refine Below.drew ?_ | with_reducible refine below_drewN ?_ _ | with_reducible refine Below.alloc ?_ (by have := hb0.size; first | (simp; done) | (simp; omega) | omega) _ | with_reducible refine Below.setCell ?_ (by first | (simp; done) | (simp; omega) | omega) _)⟩
theorem rnonce_ok (s : Int) (bs : List Int) (a : Option Addr) (n c : Nat) (w : World) (h1 : 1 ≤ s) (h2 : s < 500000003) (hm : MsgIn w a n bs) (hn : n ≤ 9991) :
    Calls Tryd.prog 15 #[.int .u32 s, .slice a n c] w fun e w' =>
      e = .returned (.tuple #[.int .u32 (nonP s bs), .int .i64 0]) ∧ Below w.heap.size w w' := by
  have hnI : (n : Int) ≤ 9991 := by omega
  go_enter Tryd.func15, Tryd.ntmps15
  have hb0 := Below.refl w.heap.size w
  go_wp2_with fail
  refine (rcheck_ok s _ h1 h2).mono ?_
  rintro e w' ⟨rfl, rfl⟩
  go_wp2_with fail
  with_reducible refine (rnonce_any s bs a n c _ (by omega) (by omega) hm hn).mono ?_
  rintro e w1 ⟨rfl, hc1⟩
  have hb1 : Below w.heap.size w w1 := bchain (by repeat' (first | with_reducible exact hb0 | with_reducible refine Below.drew ?_ | with_reducible refine below_drewN ?_ _ | with_reducible refine Below.alloc ?_ (by have := hb0.size; first | (simp; done) | (simp; omega) | omega) _ | with_reducible refine Below.setCell ?_ (by first | (simp; done) | (simp; omega) | omega) _)) hc1
  clear hc1 hb0
  go_wp2_with fail
  go_ret2
  exact ⟨rfl, by repeat' (first | with_reducible exact hb1 | with_reducible refine Below.drew ?_ | with_reducible refine below_drewN ?_ _ | with_reducible refine Below.alloc ?_ (by have := hb1.size; first | (simp; done) | (simp; omega) | omega) _ | with_reducible refine Below.setCell ?_ (by first | (simp; done) | (simp; omega) | omega) _)⟩
theorem rnonce_many (s : Int) (a : Option Addr) (n c : Nat) (w : World) (h1 : 1 ≤ s) (h2 : s < 500000003) (hn : 9991 < n) :
    Calls Tryd.prog 15 #[.int .u32 s, .slice a n c] w fun e w' =>
      e = .returned (.tuple #[.int .u32 0, .int .i64 4]) ∧ Below w.heap.size w w' := by
  have hnI : (9991 : Int) < (n : Int) := by omega
  go_enter Tryd.func15, Tryd.ntmps15
  have hb0 := Below.refl w.heap.size w
  go_wp2_with fail
  refine (rcheck_ok s _ h1 h2).mono ?_
  rintro e w' ⟨rfl, rfl⟩
  go_wp2_with fail
  go_ret2
  exact ⟨rfl, by repeat' (first | with_reducible exact hb0 | with_reducible refine Below.drew ?_ | with_reducible refine below_drewN ?_ _ | with_reducible refine Below.alloc ?_ (by have := hb0.size; first | (simp; done) | (simp; omega) | omega) _ | with_reducible refine Below.setCell ?_ (by first | (simp; done) | (simp; omega) | omega) _)⟩
theorem rnonce_no (s : Int) (a : Option Addr) (n c : Nat) (w : World) (h0 : 0 ≤ s) (h4 : s < 4294967296) (h : s = 0 ∨ 500000003 ≤ s) :
    Calls Tryd.prog 15 #[.int .u32 s, .slice a n c] w fun e w' =>
      e = .returned (.tuple #[.int .u32 0, .int .i64 2]) ∧ Below w.heap.size w w' := by
  have H_h := Box.mk h
  clear h
  go_enter Tryd.func15, Tryd.ntmps15
  have hb0 := Below.refl w.heap.size w
  go_wp2_with fail
  refine (rcheck_no s _ h0 h4 H_h.out).mono ?_
  rintro e w' ⟨rfl, rfl⟩
  go_wp2_with fail
  refine (rcheck_no s _ h0 h4 H_h.out).mono ?_
  rintro e w' ⟨rfl, rfl⟩
  go_wp2_with fail
  go_ret2
  exact ⟨rfl, by repeat' (first | with_reducible exact hb0 | with_reducible refine Below.drew ?_ | with_reducible refine below_drewN ?_ _ | with_reducible refine Below.alloc ?_ (by have := hb0.size; first | (simp; done) | (simp; omega) | omega) _ | with_reducible refine Below.setCell ?_ (by first | (simp; done) | (simp; omega) | omega) _)⟩
theorem rChallenge_ok (r y : Int) (bs : List Int) (a : Option Addr) (n c : Nat) (w : World) (r0 : 0 ≤ r) (r4 : r < 4294967296) (y0 : 0 ≤ y) (y4 : y < 4294967296) (hm : MsgIn w a n bs) (hn : n ≤ 9991) :
    Calls Tryd.prog 17 #[.int .u32 r, .int .u32 y, .slice a n c] w fun e w' =>
      e = .returned (.tuple #[.int .u32 (chaP r y bs), .int .i64 0]) ∧ Below w.heap.size w w' := by
  have hnI : (n : Int) ≤ 9991 := by omega
  go_enter Tryd.func17, Tryd.ntmps17
  have hb0 := Below.refl w.heap.size w
  go_wp2_with fail
  with_reducible refine (rchallenge_any r y bs a n c _ r0 r4 y0 y4 hm hn).mono ?_
  rintro e w1 ⟨rfl, hc1⟩
  have hb1 : Below w.heap.size w w1 := bchain (by repeat' (first | with_reducible exact hb0 | with_reducible refine Below.drew ?_ | with_reducible refine below_drewN ?_ _ | with_reducible refine Below.alloc ?_ (by have := hb0.size; first | (simp; done) | (simp; omega) | omega) _ | with_reducible refine Below.setCell ?_ (by first | (simp; done) | (simp; omega) | omega) _)) hc1
  clear hc1 hb0
  go_wp2_with fail
  go_ret2
  exact ⟨rfl, by repeat' (first | with_reducible exact hb1 | with_reducible refine Below.drew ?_ | with_reducible refine below_drewN ?_ _ | with_reducible refine Below.alloc ?_ (by have := hb1.size; first | (simp; done) | (simp; omega) | omega) _ | with_reducible refine Below.setCell ?_ (by first | (simp; done) | (simp; omega) | omega) _)⟩
theorem rChallenge_many (r y : Int) (a : Option Addr) (n c : Nat) (w : World) (hn : 9991 < n) :
    Calls Tryd.prog 17 #[.int .u32 r, .int .u32 y, .slice a n c] w fun e w' =>
      e = .returned (.tuple #[.int .u32 0, .int .i64 4]) ∧ Below w.heap.size w w' := by
  have hnI : (9991 : Int) < (n : Int) := by omega
  go_enter Tryd.func17, Tryd.ntmps17
  have hb0 := Below.refl w.heap.size w
  go_wp2_with fail
  go_ret2
  exact ⟨rfl, by repeat' (first | with_reducible exact hb0 | with_reducible refine Below.drew ?_ | with_reducible refine below_drewN ?_ _ | with_reducible refine Below.alloc ?_ (by have := hb0.size; first | (simp; done) | (simp; omega) | omega) _ | with_reducible refine Below.setCell ?_ (by first | (simp; done) | (simp; omega) | omega) _)⟩

set_option maxRecDepth 100000 in
set_option maxHeartbeats 2000000 in
theorem rsigned_any (s : Int) (bs : List Int) (a : Option Addr) (n c : Nat) (w : World) (h1 : 1 ≤ s) (h2 : s < 500000003) (hm : MsgIn w a n bs) (hn : n ≤ 9991) :
    Calls Tryd.prog 38 #[.int .u32 s, .slice a n c] w fun e w' =>
      e = .returned (.agg #[.int .u32 (sgE s bs), .int .u32 (sgS s bs)]) ∧ Below w.heap.size w w' := by
  obtain ⟨k, hk⟩ : ∃ k, nonP s bs = k := ⟨_, rfl⟩
  obtain ⟨y, hy⟩ : ∃ y, pubK s = y := ⟨_, rfl⟩
  obtain ⟨r, hr⟩ : ∃ r, pubK k = r := ⟨_, rfl⟩
  obtain ⟨E, hE⟩ : ∃ E, chaP r y bs = E := ⟨_, rfl⟩
  obtain ⟨x, hx⟩ : ∃ x, E * s % 500000003 = x := ⟨_, rfl⟩
  obtain ⟨S, hS⟩ : ∃ S, (k + x) % 500000003 = S := ⟨_, rfl⟩
  have e1 : sgE s bs = E := by unfold sgE; rw [hk, hy, hr, hE]
  have e2 : sgS s bs = S := by unfold sgS; rw [e1, hk, hx, hS]
  have k1 := nonP_rng s bs
  have y1 := pubK_rng s
  have r1 := pubK_rng k
  have E1 := chaP_rng r y bs
  rw [hk] at k1; rw [hy] at y1; rw [hr] at r1; rw [hE] at E1
  obtain ⟨k1, k2⟩ := k1
  obtain ⟨y1, y2⟩ := y1
  obtain ⟨r1, r2⟩ := r1
  obtain ⟨E1, E2⟩ := E1
  have x1 : 0 ≤ x := by omega
  have x2 : x < 500000003 := by omega
  have hwf : ∀ W, Below w.heap.size w W → MsgIn W a n bs := fun W h => hm.later h
  rw [e1, e2]
  clear e1 e2
  have H_hk := Box.mk hk
  have H_hy := Box.mk hy
  have H_hr := Box.mk hr
  have H_hE := Box.mk hE
  have H_hx := Box.mk hx
  have H_hS := Box.mk hS
  have H_hwf := Box.mk hwf
  clear hk hy hr hE hx hS hwf
  go_enter Tryd.func38, Tryd.ntmps38
  have hb0 := Below.refl w.heap.size w
  go_wp2_with fail
  with_reducible refine (rnonce_any s bs a n c _ (by omega) (by omega) (hm.later (below_alloc _ _)) hn).mono ?_
  rintro e w1 ⟨rfl, hc1⟩
  have hb1 : Below w.heap.size w w1 := bchain (by repeat' (first | with_reducible exact hb0 | with_reducible refine Below.drew ?_ | with_reducible refine below_drewN ?_ _ | with_reducible refine Below.alloc ?_ (by have := hb0.size; first | (simp; done) | (simp; omega) | omega) _ | with_reducible refine Below.setCell ?_ (by first | (simp; done) | (simp; omega) | omega) _)) hc1
  have O_0 : w1.cell? ⟨w.heap.size, 0, none⟩ = some (.int .u32 0) := (hc1.cell (p := ⟨w.heap.size, 0, none⟩) (by first | (simp; done) | (simp; omega))).trans (by first | (simp; done) | go_simp)
  have O_1 : w1.cell? ⟨w.heap.size, 1, none⟩ = some (.int .u32 0) := (hc1.cell (p := ⟨w.heap.size, 1, none⟩) (by first | (simp; done) | (simp; omega))).trans (by first | (simp; done) | go_simp)
  have O_f0 : w1.frozen? ⟨w.heap.size, 0, none⟩ = false := (hc1.frozen (p := ⟨w.heap.size, 0, none⟩) (by first | (simp; done) | (simp; omega))).trans (by first | (simp; done) | go_simp)
  have O_f1 : w1.frozen? ⟨w.heap.size, 1, none⟩ = false := (hc1.frozen (p := ⟨w.heap.size, 1, none⟩) (by first | (simp; done) | (simp; omega))).trans (by first | (simp; done) | go_simp)
  have O_l : w.heap.size < w1.heap.size := Nat.lt_of_lt_of_le (by first | (simp; done) | (simp; omega)) hc1.size
  clear hc1 hb0
  rw [H_hk.out]
  go_wp2_with fail
  with_reducible refine (rkey_any k _ (by omega) (by omega)).mono ?_
  rintro e w2 ⟨rfl, hc2⟩
  have hb2 : Below w.heap.size w w2 := bchain (by repeat' (first | with_reducible exact hb1 | with_reducible refine Below.drew ?_ | with_reducible refine below_drewN ?_ _ | with_reducible refine Below.alloc ?_ (by have := hb1.size; first | (simp; done) | (simp; omega) | omega) _ | with_reducible refine Below.setCell ?_ (by first | (simp; done) | (simp; omega) | omega) _)) hc2
  have hst2 : Below w1.heap.size w1 w2 := bchain (by repeat' (first | with_reducible exact Below.refl _ _ | with_reducible refine Below.drew ?_ | with_reducible refine below_drewN ?_ _ | with_reducible refine Below.alloc ?_ (by first | (simp; done) | (simp; omega) | omega) _ | with_reducible refine Below.setCell ?_ (by first | (simp; done) | (simp; omega) | omega) _)) hc2
  replace O_0 := cell_later hst2 O_0
  replace O_1 := cell_later hst2 O_1
  replace O_f0 := frozen_later hst2 O_l O_f0
  replace O_f1 := frozen_later hst2 O_l O_f1
  replace O_l := Nat.lt_of_lt_of_le O_l hst2.size
  clear hst2
  clear hc2 hb1
  rw [H_hr.out]
  go_wp2_with fail
  with_reducible refine (rkey_any s _ (by omega) (by omega)).mono ?_
  rintro e w3 ⟨rfl, hc3⟩
  have hb3 : Below w.heap.size w w3 := bchain (by repeat' (first | with_reducible exact hb2 | with_reducible refine Below.drew ?_ | with_reducible refine below_drewN ?_ _ | with_reducible refine Below.alloc ?_ (by have := hb2.size; first | (simp; done) | (simp; omega) | omega) _ | with_reducible refine Below.setCell ?_ (by first | (simp; done) | (simp; omega) | omega) _)) hc3
  have hst3 : Below w2.heap.size w2 w3 := bchain (by repeat' (first | with_reducible exact Below.refl _ _ | with_reducible refine Below.drew ?_ | with_reducible refine below_drewN ?_ _ | with_reducible refine Below.alloc ?_ (by first | (simp; done) | (simp; omega) | omega) _ | with_reducible refine Below.setCell ?_ (by first | (simp; done) | (simp; omega) | omega) _)) hc3
  replace O_0 := cell_later hst3 O_0
  replace O_1 := cell_later hst3 O_1
  replace O_f0 := frozen_later hst3 O_l O_f0
  replace O_f1 := frozen_later hst3 O_l O_f1
  replace O_l := Nat.lt_of_lt_of_le O_l hst3.size
  clear hst3
  clear hc3 hb2
  rw [H_hy.out]
  go_wp2_with fail
  with_reducible refine (rchallenge_any r y bs a n c _ r1 (by omega) y1 (by omega) (H_hwf.out _ hb3) hn).mono ?_
  rintro e w4 ⟨rfl, hc4⟩
  have hb4 : Below w.heap.size w w4 := bchain (by repeat' (first | with_reducible exact hb3 | with_reducible refine Below.drew ?_ | with_reducible refine below_drewN ?_ _ | with_reducible refine Below.alloc ?_ (by have := hb3.size; first | (simp; done) | (simp; omega) | omega) _ | with_reducible refine Below.setCell ?_ (by first | (simp; done) | (simp; omega) | omega) _)) hc4
  have hst4 : Below w3.heap.size w3 w4 := bchain (by repeat' (first | with_reducible exact Below.refl _ _ | with_reducible refine Below.drew ?_ | with_reducible refine below_drewN ?_ _ | with_reducible refine Below.alloc ?_ (by first | (simp; done) | (simp; omega) | omega) _ | with_reducible refine Below.setCell ?_ (by first | (simp; done) | (simp; omega) | omega) _)) hc4
  replace O_0 := cell_later hst4 O_0
  replace O_1 := cell_later hst4 O_1
  replace O_f0 := frozen_later hst4 O_l O_f0
  replace O_f1 := frozen_later hst4 O_l O_f1
  replace O_l := Nat.lt_of_lt_of_le O_l hst4.size
  clear hst4
  clear hc4 hb3
  rw [H_hE.out]
  go_wp2_with fail
  refine (rscaled_any E s _ E1 (by omega) (by omega) (by omega)).mono ?_
  rintro e w' ⟨rfl, rfl⟩
  rw [H_hx.out]
  go_wp2_with fail
  refine (rsum_any k x _ (by omega) (by omega) x1 (by omega)).mono ?_
  rintro e w' ⟨rfl, rfl⟩
  rw [H_hS.out]
  go_wp2_with fail
  refine bodyPost_ret (v := .agg #[.int .u32 E, .int .u32 S]) (by simp [results, Tryd.results38, go_sem, *]) rfl ⟨rfl, ?_⟩
  exact (by repeat' (first | with_reducible exact hb4 | with_reducible refine Below.drew ?_ | with_reducible refine below_drewN ?_ _ | with_reducible refine Below.alloc ?_ (by have := hb4.size; first | (simp; done) | (simp; omega) | omega) _ | with_reducible refine Below.setCell ?_ (by first | (simp; done) | (simp; omega) | omega) _))
set_option maxRecDepth 100000 in
set_option maxHeartbeats 1000000 in
theorem rsign_ok (s : Int) (bs : List Int) (a : Option Addr) (n c : Nat) (w : World) (h1 : 1 ≤ s) (h2 : s < 500000003) (hm : MsgIn w a n bs) (hn : n ≤ 9991) :
    Calls Tryd.prog 19 #[.int .u32 s, .slice a n c] w fun e w' =>
      e = .returned (.tuple #[.agg #[.int .u32 (sgE s bs), .int .u32 (sgS s bs)], .int .i64 0]) ∧ Below w.heap.size w w' := by
  have hnI : (n : Int) ≤ 9991 := by omega
  obtain ⟨E, hE⟩ : ∃ E, sgE s bs = E := ⟨_, rfl⟩
  obtain ⟨S, hS⟩ : ∃ S, sgS s bs = S := ⟨_, rfl⟩
  have hC := fun w hm => hE ▸ hS ▸ rsigned_any s bs a n c w h1 h2 hm hn
  rw [hE, hS]
  have H_hE := Box.mk hE
  have H_hS := Box.mk hS
  have H_hC := Box.mk hC
  clear hE hS hC
  go_enter Tryd.func19, Tryd.ntmps19
  have hb0 := Below.refl w.heap.size w
  go_wp2_with fail
  refine (rcheck_ok s _ h1 h2).mono ?_
  rintro e w' ⟨rfl, rfl⟩
  go_wp2_with fail
  with_reducible refine (H_hC.out _ (hm.later (below_alloc _ _))).mono ?_
  rintro e w1 ⟨rfl, hc1⟩
  have hb1 : Below w.heap.size w w1 := bchain (by repeat' (first | with_reducible exact hb0 | with_reducible refine Below.drew ?_ | with_reducible refine below_drewN ?_ _ | with_reducible refine Below.alloc ?_ (by have := hb0.size; first | (simp; done) | (simp; omega) | omega) _ | with_reducible refine Below.setCell ?_ (by first | (simp; done) | (simp; omega) | omega) _)) hc1
  have O_0 : w1.cell? ⟨w.heap.size, 0, none⟩ = some (.int .u32 0) := (hc1.cell (p := ⟨w.heap.size, 0, none⟩) (by first | (simp; done) | (simp; omega))).trans (by first | (simp; done) | go_simp)
  have O_1 : w1.cell? ⟨w.heap.size, 1, none⟩ = some (.int .u32 0) := (hc1.cell (p := ⟨w.heap.size, 1, none⟩) (by first | (simp; done) | (simp; omega))).trans (by first | (simp; done) | go_simp)
  have O_f0 : w1.frozen? ⟨w.heap.size, 0, none⟩ = false := (hc1.frozen (p := ⟨w.heap.size, 0, none⟩) (by first | (simp; done) | (simp; omega))).trans (by first | (simp; done) | go_simp)
  have O_f1 : w1.frozen? ⟨w.heap.size, 1, none⟩ = false := (hc1.frozen (p := ⟨w.heap.size, 1, none⟩) (by first | (simp; done) | (simp; omega))).trans (by first | (simp; done) | go_simp)
  have O_l : w.heap.size < w1.heap.size := Nat.lt_of_lt_of_le (by first | (simp; done) | (simp; omega)) hc1.size
  clear hc1 hb0
  go_wp2_with fail
  refine bodyPost_ret (v := .tuple #[.agg #[.int .u32 E, .int .u32 S], .int .i64 0]) (by simp [results, Tryd.results19, go_sem, *]) rfl ⟨rfl, ?_⟩
  exact (by repeat' (first | with_reducible exact hb1 | with_reducible refine Below.drew ?_ | with_reducible refine below_drewN ?_ _ | with_reducible refine Below.alloc ?_ (by have := hb1.size; first | (simp; done) | (simp; omega) | omega) _ | with_reducible refine Below.setCell ?_ (by first | (simp; done) | (simp; omega) | omega) _))
theorem rsign_many (s : Int) (a : Option Addr) (n c : Nat) (w : World) (h1 : 1 ≤ s) (h2 : s < 500000003) (hn : 9991 < n) :
    Calls Tryd.prog 19 #[.int .u32 s, .slice a n c] w fun e w' =>
      e = .returned (.tuple #[.agg #[.int .u32 0, .int .u32 0], .int .i64 4]) ∧ Below w.heap.size w w' := by
  have hnI : (9991 : Int) < (n : Int) := by omega
  go_enter Tryd.func19, Tryd.ntmps19
  have hb0 := Below.refl w.heap.size w
  go_wp2_with fail
  refine (rcheck_ok s _ h1 h2).mono ?_
  rintro e w' ⟨rfl, rfl⟩
  go_wp2_with fail
  refine bodyPost_ret (v := .tuple #[.agg #[.int .u32 0, .int .u32 0], .int .i64 4]) (by simp [results, Tryd.results19, go_sem, *]) rfl ⟨rfl, ?_⟩
  exact (by repeat' (first | with_reducible exact hb0 | with_reducible refine Below.drew ?_ | with_reducible refine below_drewN ?_ _ | with_reducible refine Below.alloc ?_ (by have := hb0.size; first | (simp; done) | (simp; omega) | omega) _ | with_reducible refine Below.setCell ?_ (by first | (simp; done) | (simp; omega) | omega) _))
theorem rsign_no (s : Int) (a : Option Addr) (n c : Nat) (w : World) (h0 : 0 ≤ s) (h4 : s < 4294967296) (h : s = 0 ∨ 500000003 ≤ s) :
    Calls Tryd.prog 19 #[.int .u32 s, .slice a n c] w fun e w' =>
      e = .returned (.tuple #[.agg #[.int .u32 0, .int .u32 0], .int .i64 2]) ∧ Below w.heap.size w w' := by
  have H_h := Box.mk h
  clear h
  go_enter Tryd.func19, Tryd.ntmps19
  have hb0 := Below.refl w.heap.size w
  go_wp2_with fail
  refine (rcheck_no s _ h0 h4 H_h.out).mono ?_
  rintro e w' ⟨rfl, rfl⟩
  go_wp2_with fail
  refine (rcheck_no s _ h0 h4 H_h.out).mono ?_
  rintro e w' ⟨rfl, rfl⟩
  go_wp2_with fail
  refine bodyPost_ret (v := .tuple #[.agg #[.int .u32 0, .int .u32 0], .int .i64 2]) (by simp [results, Tryd.results19, go_sem, *]) rfl ⟨rfl, ?_⟩
  exact (by repeat' (first | with_reducible exact hb0 | with_reducible refine Below.drew ?_ | with_reducible refine below_drewN ?_ _ | with_reducible refine Below.alloc ?_ (by have := hb0.size; first | (simp; done) | (simp; omega) | omega) _ | with_reducible refine Below.setCell ?_ (by first | (simp; done) | (simp; omega) | omega) _))

theorem rright_big (y E S : Int) (a : Option Addr) (n c : Nat) (w : World) (hE0 : 0 ≤ E) (hE4 : E < 4294967296) (hS0 : 0 ≤ S) (hS4 : S < 4294967296) (hb : 500000003 ≤ E ∨ 500000003 ≤ S) :
    Calls Tryd.prog 31 #[.int .u32 y, .slice a n c, .agg #[.int .u32 E, .int .u32 S]] w fun e w' =>
      e = .returned (.bool false) ∧ Below w.heap.size w w' := by
  by_cases hE : E < 500000003
  · have hS : decide (S < 500000003) = false := by rw [decide_eq_false_iff_not]; omega
    clear hb
    go_enter Tryd.func31, Tryd.ntmps31
    have hb0 := Below.refl w.heap.size w
    go_wp2_with fail
    refine (rexponent_any E _ hE0 hE4).mono ?_
    rintro e w' ⟨rfl, rfl⟩
    go_wp2_with fail
    refine (rexponent_any S _ hS0 hS4).mono ?_
    rintro e w' ⟨rfl, rfl⟩
    rw [hS]
    go_wp2_with fail
    go_ret
    exact ⟨rfl, by repeat' (first | with_reducible exact hb0 | with_reducible refine Below.drew ?_ | with_reducible refine below_drewN ?_ _ | with_reducible refine Below.alloc ?_ (by have := hb0.size; first | (simp; done) | (simp; omega) | omega) _ | with_reducible refine Below.setCell ?_ (by first | (simp; done) | (simp; omega) | omega) _)⟩
  · have hE' : decide (E < 500000003) = false := by rw [decide_eq_false_iff_not]; omega
    clear hb hE
    go_enter Tryd.func31, Tryd.ntmps31
    have hb0 := Below.refl w.heap.size w
    go_wp2_with fail
    refine (rexponent_any E _ hE0 hE4).mono ?_
    rintro e w' ⟨rfl, rfl⟩
    rw [hE']
    go_wp2_with fail
    go_ret
    exact ⟨rfl, by repeat' (first | with_reducible exact hb0 | with_reducible refine Below.drew ?_ | with_reducible refine below_drewN ?_ _ | with_reducible refine Below.alloc ?_ (by have := hb0.size; first | (simp; done) | (simp; omega) | omega) _ | with_reducible refine Below.setCell ?_ (by first | (simp; done) | (simp; omega) | omega) _)⟩

theorem rproductB (a c : Int) (w : World) (ha : 0 ≤ a) (ha' : a < 4294967296) (hc : 0 ≤ c) (hc' : c < 4294967296) :
    Calls Tryd.prog 45 #[.int .u32 a, .int .u32 c] w fun e w' =>
      e = .returned (.int .u32 (a * c % 1000000007)) ∧ Below w.heap.size w w' :=
  (rproduct_any a c w ha ha' hc hc').mono fun _ _ h => ⟨h.1, h.2 ▸ Below.refl _ _⟩

set_option maxRecDepth 100000 in
set_option maxHeartbeats 2000000 in
theorem rright_go (y E S : Int) (bs : List Int) (a : Option Addr) (n c : Nat) (w : World) (h : isB y = true) (hm : MsgIn w a n bs) (hn : n ≤ 9991) (hE0 : 0 ≤ E) (hE : E < 500000003) (hS0 : 0 ≤ S) (hS : S < 500000003) :
    Calls Tryd.prog 31 #[.int .u32 y, .slice a n c, .agg #[.int .u32 E, .int .u32 S]] w fun e w' =>
      e = .returned (.bool (chaP (backR y E S) y bs == E)) ∧ Below w.heap.size w w' := by
  have hy := isB_bd h
  obtain ⟨hy0, hy1⟩ := hy
  obtain ⟨v, hv⟩ : ∃ v, gpw y E.toNat 1000000007 = v := ⟨_, rfl⟩
  have hvB : isB v = true := by rw [← hv]; exact isB_pow h _
  obtain ⟨z, hz⟩ : ∃ z, gpw v 500000002 1000000007 = z := ⟨_, rfl⟩
  have hz' : gpw y (500000003 - E).toNat 1000000007 = z := by rw [back_pow h E hE0 hE, hv, hz]
  have hzr : 0 ≤ z ∧ z < 1000000007 := by rw [← hz]; exact ⟨pw_nonneg _ _ _ (by omega), pw_lt _ _ _ (by omega)⟩
  obtain ⟨u, hu⟩ : ∃ u, pubK S = u := ⟨_, rfl⟩
  have hur := pubK_rng S
  rw [hu] at hur
  obtain ⟨r, hr⟩ : ∃ r, u * z % 1000000007 = r := ⟨_, rfl⟩
  have e1 : backR y E S = r := by rw [← hr, ← hu, ← hz']; rfl
  have hr0 : 0 ≤ r := by omega
  have hr1 : r < 1000000007 := by omega
  obtain ⟨C, hC⟩ : ∃ C, chaP r y bs = C := ⟨_, rfl⟩
  obtain ⟨k, hk⟩ : ∃ k : Nat, E.toNat = k := ⟨_, rfl⟩
  have hEk : E = (k : Int) := by omega
  rw [e1, hC]
  rw [hk] at hv
  obtain ⟨hzr0, hzr1⟩ := hzr
  obtain ⟨hur0, hur1⟩ := hur
  clear e1 hz' hk
  subst hEk
  have hq1 := fun W h1 => hu ▸ rkey_any S W hS0 h1
  have hq2 := fun W h1 h2 h3 h4 => hr ▸ rproductB u z W h1 h2 h3 h4
  have hq3 := fun W h1 h2 h3 h4 (hm : MsgIn W a n bs) => hC ▸ rchallenge_any r y bs a n c W h1 h2 h3 h4 hm hn
  have H_h := Box.mk h
  have H_hv := Box.mk hv
  have H_hvB := Box.mk hvB
  have H_hz := Box.mk hz
  have H_hu := Box.mk hu
  have H_hr := Box.mk hr
  have H_hC := Box.mk hC
  have H_hq1 := Box.mk hq1
  have H_hq2 := Box.mk hq2
  have H_hq3 := Box.mk hq3
  clear h hv hvB hz hu hr hC hq1 hq2 hq3
  go_enter Tryd.func31, Tryd.ntmps31
  have hb0 := Below.refl w.heap.size w
  go_wp2_with fail
  refine (rexponent_any k _ hE0 (by omega)).mono ?_
  rintro e w' ⟨rfl, rfl⟩
  go_wp2_with fail
  refine (rexponent_any S _ hS0 (by omega)).mono ?_
  rintro e w' ⟨rfl, rfl⟩
  go_wp2_with fail
  refine (rraised_any y k _ (by omega) (by omega) (by omega)).mono ?_
  rintro e w' ⟨rfl, rfl⟩
  rw [H_hv.out]
  go_wp2_with fail
  refine (rinv_ok v _ H_hvB.out).mono ?_
  rintro e w' ⟨rfl, rfl⟩
  rw [H_hz.out]
  have H_hm := Box.mk hm
  clear hm
  go_wp2_with fail
  refine wp_gen fun w1 hc1 => ?_
  have hb1 : Below w.heap.size w w1 := bchain (by repeat' (first | with_reducible exact hb0 | with_reducible refine Below.drew ?_ | with_reducible refine below_drewN ?_ _ | with_reducible refine Below.alloc ?_ (by have := hb0.size; first | (simp; done) | (simp; omega) | omega) _ | with_reducible refine Below.setCell ?_ (by first | (simp; done) | (simp; omega) | omega) _)) hc1
  have O_0 : w1.cell? ⟨w.heap.size, 0, none⟩ = some (.int .u32 k) := (hc1.cell (p := ⟨w.heap.size, 0, none⟩) (by first | (simp; done) | (simp; omega))).trans (by first | (simp; done) | go_simp)
  have O_1 : w1.cell? ⟨w.heap.size, 1, none⟩ = some (.int .u32 S) := (hc1.cell (p := ⟨w.heap.size, 1, none⟩) (by first | (simp; done) | (simp; omega))).trans (by first | (simp; done) | go_simp)
  have O_l : w.heap.size < w1.heap.size := Nat.lt_of_lt_of_le (by first | (simp; done) | (simp; omega)) hc1.size
  have KO_0 := cell_on O_0
  have KO_1 := cell_on O_1
  have H_hmA := Box.mk (H_hm.out.later hb1)
  refine wp_region_on (by kernel_rfl) (by kernel_rfl) ?_
  repeat (go_big_quiet_step ((first | (go_at_call 32; with_reducible exact calls_on (H_hq1.out _ (by omega))) | (go_at_call 45; with_reducible exact calls_on (H_hq2.out _ hur0 (by omega) hzr0 (by omega))) | (go_at_call 35; with_reducible exact calls_on (H_hq3.out _ hr0 (by omega) (by omega) (by omega) (H_hmA.out.on _))))))
  refine wpQuiet_nil ?_
  intro w2 hc2
  clear KO_0 KO_1
  have hb2 : Below w.heap.size w w2 := bchain (by repeat' (first | with_reducible exact hb1 | with_reducible refine Below.drew ?_ | with_reducible refine below_drewN ?_ _ | with_reducible refine Below.alloc ?_ (by have := hb1.size; first | (simp; done) | (simp; omega) | omega) _ | with_reducible refine Below.setCell ?_ (by first | (simp; done) | (simp; omega) | omega) _)) hc2
  have hst2 : Below w1.heap.size w1 w2 := bchain (by repeat' (first | with_reducible exact Below.refl _ _ | with_reducible refine Below.drew ?_ | with_reducible refine below_drewN ?_ _ | with_reducible refine Below.alloc ?_ (by first | (simp; done) | (simp; omega) | omega) _ | with_reducible refine Below.setCell ?_ (by first | (simp; done) | (simp; omega) | omega) _)) hc2
  replace O_0 := cell_later hst2 O_0
  replace O_1 := cell_later hst2 O_1
  replace O_l := Nat.lt_of_lt_of_le O_l hst2.size
  clear hst2
  go_wp2_with fail
  go_ret
  exact ⟨rfl, by repeat' (first | with_reducible exact hb2 | with_reducible refine Below.drew ?_ | with_reducible refine below_drewN ?_ _ | with_reducible refine Below.alloc ?_ (by have := hb2.size; first | (simp; done) | (simp; omega) | omega) _ | with_reducible refine Below.setCell ?_ (by first | (simp; done) | (simp; omega) | omega) _)⟩


def badS (s : Int) : Prop := s = 0 ∨ 500000003 ≤ s
instance (s : Int) : Decidable (badS s) := inferInstanceAs (Decidable (s = 0 ∨ 500000003 ≤ s))
def chkZ (s : Int) : Int := if badS s then 2 else 0
def pubZ (s : Int) : Int × Int := if badS s then (0, 2) else (pubK s, 0)
def nonZ (s : Int) (bs : List Int) : Int × Int := if badS s then (0, 2) else if 9991 < bs.length then (0, 4) else (nonP s bs, 0)
def chaZ (r y : Int) (bs : List Int) : Int × Int := if 9991 < bs.length then (0, 4) else (chaP r y bs, 0)
def sgnZ (s : Int) (bs : List Int) : Int × Int × Int := if badS s then (0, 0, 2) else if 9991 < bs.length then (0, 0, 4) else (sgE s bs, sgS s bs, 0)
def verZ (y E S : Int) (bs : List Int) : Int := if isB y = false then 2 else if 9991 < bs.length then 4 else if 500000003 ≤ E ∨ 500000003 ≤ S then 22 else if chaP (backR y E S) y bs = E then 0 else 22
def eI (k : IntKind) (r : Int × Int) : Ending := .returned (.tuple #[.int k r.1, .int .i64 r.2])
def eS (r : Int × Int × Int) : Ending := .returned (.tuple #[.agg #[.int .u32 r.1, .int .u32 r.2.1], .int .i64 r.2.2])
theorem good_of {s : Int} (h0 : 0 ≤ s) (h : ¬ badS s) : 1 ≤ s ∧ s < 500000003 := by unfold badS at h; omega

theorem check_any (s : Int) (w : World) (h0 : 0 ≤ s) (h4 : s < 4294967296) :
    Calls Tryd.prog 20 #[.int .u32 s] w fun e w' =>
      e = .returned (.int .i64 (chkZ s)) ∧ w = w' := by
  unfold chkZ
  by_cases h : badS s
  · rw [if_pos h]; exact check_no s w h0 h4 h
  · rw [if_neg h]; exact check_ok s w (good_of h0 h).1 (good_of h0 h).2
theorem rcheck_any (s : Int) (w : World) (h0 : 0 ≤ s) (h4 : s < 4294967296) :
    Calls Tryd.prog 21 #[.int .u32 s] w fun e w' =>
      e = .returned (.int .i64 (chkZ s)) ∧ w = w' := by
  unfold chkZ
  by_cases h : badS s
  · rw [if_pos h]; exact rcheck_no s w h0 h4 h
  · rw [if_neg h]; exact rcheck_ok s w (good_of h0 h).1 (good_of h0 h).2
theorem public_any (s : Int) (w : World) (h0 : 0 ≤ s) (h4 : s < 4294967296) :
    Calls Tryd.prog 12 #[.int .u32 s] w fun e w' =>
      e = eI .u32 (pubZ s) ∧ Below w.heap.size w w' := by
  unfold pubZ
  by_cases h : badS s
  · rw [if_pos h]; exact public_no s w h0 h4 h
  · rw [if_neg h]; exact public_ok s w (good_of h0 h).1 (good_of h0 h).2
theorem rpublic_any (s : Int) (w : World) (h0 : 0 ≤ s) (h4 : s < 4294967296) :
    Calls Tryd.prog 13 #[.int .u32 s] w fun e w' =>
      e = eI .u32 (pubZ s) ∧ Below w.heap.size w w' := by
  unfold pubZ
  by_cases h : badS s
  · rw [if_pos h]; exact rpublic_no s w h0 h4 h
  · rw [if_neg h]; exact rpublic_ok s w (good_of h0 h).1 (good_of h0 h).2
theorem nonce_all (s : Int) (bs : List Int) (a : Option Addr) (n c : Nat) (w : World) (h0 : 0 ≤ s) (h4 : s < 4294967296) (hm : MsgIn w a n bs) (hn : n ≤ 140737488355328) (hT : TabK w) :
    Calls Tryd.prog 14 #[.int .u32 s, .slice a n c] w fun e w' =>
      e = eI .u32 (nonZ s bs) ∧ Below w.heap.size w w' := by
  unfold nonZ
  by_cases h : badS s
  · rw [if_pos h]; exact nonce_no s a n c w h0 h4 h
  · rw [if_neg h]
    have hg := good_of h0 h
    by_cases hl : 9991 < bs.length
    · rw [if_pos hl]; exact nonce_many s a n c w hg.1 hg.2 (hm.len ▸ hl) hn
    · rw [if_neg hl]; exact nonce_ok s bs a n c w hg.1 hg.2 hm (by have := hm.len; omega) hT
theorem rnonce_all (s : Int) (bs : List Int) (a : Option Addr) (n c : Nat) (w : World) (h0 : 0 ≤ s) (h4 : s < 4294967296) (hm : MsgIn w a n bs) :
    Calls Tryd.prog 15 #[.int .u32 s, .slice a n c] w fun e w' =>
      e = eI .u32 (nonZ s bs) ∧ Below w.heap.size w w' := by
  unfold nonZ
  by_cases h : badS s
  · rw [if_pos h]; exact rnonce_no s a n c w h0 h4 h
  · rw [if_neg h]
    have hg := good_of h0 h
    by_cases hl : 9991 < bs.length
    · rw [if_pos hl]; exact rnonce_many s a n c w hg.1 hg.2 (hm.len ▸ hl)
    · rw [if_neg hl]; exact rnonce_ok s bs a n c w hg.1 hg.2 hm (by have := hm.len; omega)
theorem challenge_all (r y : Int) (bs : List Int) (a : Option Addr) (n c : Nat) (w : World) (r0 : 0 ≤ r) (r4 : r < 4294967296) (y0 : 0 ≤ y) (y4 : y < 4294967296) (hm : MsgIn w a n bs) (hn : n ≤ 140737488355328) (hT : TabK w) :
    Calls Tryd.prog 16 #[.int .u32 r, .int .u32 y, .slice a n c] w fun e w' =>
      e = eI .u32 (chaZ r y bs) ∧ Below w.heap.size w w' := by
  unfold chaZ
  by_cases hl : 9991 < bs.length
  · rw [if_pos hl]; exact challenge_many r y a n c w (hm.len ▸ hl) hn
  · rw [if_neg hl]; exact challenge_ok r y bs a n c w r0 r4 y0 y4 hm (by have := hm.len; omega) hT
theorem rchallenge_all (r y : Int) (bs : List Int) (a : Option Addr) (n c : Nat) (w : World) (r0 : 0 ≤ r) (r4 : r < 4294967296) (y0 : 0 ≤ y) (y4 : y < 4294967296) (hm : MsgIn w a n bs) :
    Calls Tryd.prog 17 #[.int .u32 r, .int .u32 y, .slice a n c] w fun e w' =>
      e = eI .u32 (chaZ r y bs) ∧ Below w.heap.size w w' := by
  unfold chaZ
  by_cases hl : 9991 < bs.length
  · rw [if_pos hl]; exact rChallenge_many r y a n c w (hm.len ▸ hl)
  · rw [if_neg hl]; exact rChallenge_ok r y bs a n c w r0 r4 y0 y4 hm (by have := hm.len; omega)
theorem sign_all (s : Int) (bs : List Int) (a : Option Addr) (n c : Nat) (w : World) (h0 : 0 ≤ s) (h4 : s < 4294967296) (hm : MsgIn w a n bs) (hn : n ≤ 140737488355328) (hT : TabK w) :
    Calls Tryd.prog 18 #[.int .u32 s, .slice a n c] w fun e w' =>
      e = eS (sgnZ s bs) ∧ Below w.heap.size w w' := by
  unfold sgnZ
  by_cases h : badS s
  · rw [if_pos h]; exact sign_no s a n c w h0 h4 h
  · rw [if_neg h]
    have hg := good_of h0 h
    by_cases hl : 9991 < bs.length
    · rw [if_pos hl]; exact sign_many s a n c w hg.1 hg.2 (hm.len ▸ hl) hn
    · rw [if_neg hl]; exact sign_ok s bs a n c w hg.1 hg.2 hm (by have := hm.len; omega) hT
theorem rsign_all (s : Int) (bs : List Int) (a : Option Addr) (n c : Nat) (w : World) (h0 : 0 ≤ s) (h4 : s < 4294967296) (hm : MsgIn w a n bs) :
    Calls Tryd.prog 19 #[.int .u32 s, .slice a n c] w fun e w' =>
      e = eS (sgnZ s bs) ∧ Below w.heap.size w w' := by
  unfold sgnZ
  by_cases h : badS s
  · rw [if_pos h]; exact rsign_no s a n c w h0 h4 h
  · rw [if_neg h]
    have hg := good_of h0 h
    by_cases hl : 9991 < bs.length
    · rw [if_pos hl]; exact rsign_many s a n c w hg.1 hg.2 (hm.len ▸ hl)
    · rw [if_neg hl]; exact rsign_ok s bs a n c w hg.1 hg.2 hm (by have := hm.len; omega)
theorem verify_all (y E S : Int) (bs : List Int) (a : Option Addr) (n c : Nat) (w : World) (y0 : 0 ≤ y) (y4 : y < 4294967296) (hE0 : 0 ≤ E) (hS0 : 0 ≤ S) (hm : MsgIn w a n bs) (hT : TabK w) :
    Calls Tryd.prog 10 #[.int .u32 y, .slice a n c, .agg #[.int .u32 E, .int .u32 S]] w fun e w' =>
      e = .returned (.int .i64 (verZ y E S bs)) ∧ Below w.heap.size w w' := by
  unfold verZ
  cases h : isB y with
  | false => exact verify_no y E S a n c w y0 y4 h
  | true =>
    rw [if_neg (by decide)]
    by_cases hl : 9991 < bs.length
    · rw [if_pos hl]; exact verify_many y E S a n c w y0 y4 h (hm.len ▸ hl)
    · rw [if_neg hl]
      have hn : n ≤ 9991 := by have := hm.len; omega
      by_cases hb : 500000003 ≤ E ∨ 500000003 ≤ S
      · rw [if_pos hb]; exact verify_big y E S a n c w y0 y4 h hn hE0 hS0 hb
      · rw [if_neg hb]; exact verify_go y E S bs a n c w h hm hn hT hE0 (by omega) hS0 (by omega)

theorem rverify_no (y E S : Int) (a : Option Addr) (n c : Nat) (w : World) (y0 : 0 ≤ y) (y4 : y < 4294967296) (h : isB y = false) :
    Calls Tryd.prog 11 #[.int .u32 y, .slice a n c, .agg #[.int .u32 E, .int .u32 S]] w fun e w' =>
      e = .returned (.int .i64 2) ∧ Below w.heap.size w w' := by
  have H_h := Box.mk h
  clear h
  go_enter Tryd.func11, Tryd.ntmps11
  have hb0 := Below.refl w.heap.size w
  go_wp2_with fail
  refine (ris_any y _ y0 y4).mono ?_
  rintro e w' ⟨rfl, rfl⟩
  rw [H_h.out]
  go_wp2_with fail
  go_ret
  exact ⟨rfl, by repeat' (first | with_reducible exact hb0 | with_reducible refine Below.drew ?_ | with_reducible refine below_drewN ?_ _ | with_reducible refine Below.alloc ?_ (by have := hb0.size; first | (simp; done) | (simp; omega) | omega) _ | with_reducible refine Below.setCell ?_ (by first | (simp; done) | (simp; omega) | omega) _)⟩
theorem rverify_many (y E S : Int) (a : Option Addr) (n c : Nat) (w : World) (y0 : 0 ≤ y) (y4 : y < 4294967296) (h : isB y = true) (hn : 9991 < n) :
    Calls Tryd.prog 11 #[.int .u32 y, .slice a n c, .agg #[.int .u32 E, .int .u32 S]] w fun e w' =>
      e = .returned (.int .i64 4) ∧ Below w.heap.size w w' := by
  have hnI : (9991 : Int) < (n : Int) := by omega
  have H_h := Box.mk h
  clear h
  go_enter Tryd.func11, Tryd.ntmps11
  have hb0 := Below.refl w.heap.size w
  go_wp2_with fail
  refine (ris_any y _ y0 y4).mono ?_
  rintro e w' ⟨rfl, rfl⟩
  rw [H_h.out]
  go_wp2_with fail
  go_ret
  exact ⟨rfl, by repeat' (first | with_reducible exact hb0 | with_reducible refine Below.drew ?_ | with_reducible refine below_drewN ?_ _ | with_reducible refine Below.alloc ?_ (by have := hb0.size; first | (simp; done) | (simp; omega) | omega) _ | with_reducible refine Below.setCell ?_ (by first | (simp; done) | (simp; omega) | omega) _)⟩

theorem rverify_on (y E S : Int) (B : Bool) (a : Option Addr) (n c : Nat) (w : World) (y0 : 0 ≤ y) (y4 : y < 4294967296) (h : isB y = true) (hn : n ≤ 9991)
    (hR : ∀ w1, Below w.heap.size w w1 → Calls Tryd.prog 31 #[.int .u32 y, .slice a n c, .agg #[.int .u32 E, .int .u32 S]] w1 fun e w' => e = .returned (.bool B) ∧ Below w1.heap.size w1 w') :
    Calls Tryd.prog 11 #[.int .u32 y, .slice a n c, .agg #[.int .u32 E, .int .u32 S]] w fun e w' =>
      e = .returned (.int .i64 (if B = true then 0 else 22)) ∧ Below w.heap.size w w' := by
  have hnI : (n : Int) ≤ 9991 := by omega
  have H_h := Box.mk h
  have H_hR := Box.mk hR
  clear h hR
  cases B
  · rw [if_neg (by decide)]
    go_enter Tryd.func11, Tryd.ntmps11
    have hb0 := Below.refl w.heap.size w
    go_wp2_with fail
    refine (ris_any y _ y0 y4).mono ?_
    rintro e w' ⟨rfl, rfl⟩
    rw [H_h.out]
    go_wp2_with fail
    with_reducible refine (H_hR.out _ (below_alloc _ _)).mono ?_
    rintro e w1 ⟨rfl, hc1⟩
    have hb1 : Below w.heap.size w w1 := bchain (by repeat' (first | with_reducible exact hb0 | with_reducible refine Below.drew ?_ | with_reducible refine below_drewN ?_ _ | with_reducible refine Below.alloc ?_ (by have := hb0.size; first | (simp; done) | (simp; omega) | omega) _ | with_reducible refine Below.setCell ?_ (by first | (simp; done) | (simp; omega) | omega) _)) hc1
    have O_0 : w1.cell? ⟨w.heap.size, 0, none⟩ = some (.int .u32 E) := (hc1.cell (p := ⟨w.heap.size, 0, none⟩) (by first | (simp; done) | (simp; omega))).trans (by first | (simp; done) | go_simp)
    have O_1 : w1.cell? ⟨w.heap.size, 1, none⟩ = some (.int .u32 S) := (hc1.cell (p := ⟨w.heap.size, 1, none⟩) (by first | (simp; done) | (simp; omega))).trans (by first | (simp; done) | go_simp)
    have O_l : w.heap.size < w1.heap.size := Nat.lt_of_lt_of_le (by first | (simp; done) | (simp; omega)) hc1.size
    clear hc1 hb0
    go_wp2_with fail
    go_ret
    exact ⟨rfl, by repeat' (first | with_reducible exact hb1 | with_reducible refine Below.drew ?_ | with_reducible refine below_drewN ?_ _ | with_reducible refine Below.alloc ?_ (by have := hb1.size; first | (simp; done) | (simp; omega) | omega) _ | with_reducible refine Below.setCell ?_ (by first | (simp; done) | (simp; omega) | omega) _)⟩
  · rw [if_pos rfl]
    go_enter Tryd.func11, Tryd.ntmps11
    have hb0 := Below.refl w.heap.size w
    go_wp2_with fail
    refine (ris_any y _ y0 y4).mono ?_
    rintro e w' ⟨rfl, rfl⟩
    rw [H_h.out]
    go_wp2_with fail
    with_reducible refine (H_hR.out _ (below_alloc _ _)).mono ?_
    rintro e w1 ⟨rfl, hc1⟩
    have hb1 : Below w.heap.size w w1 := bchain (by repeat' (first | with_reducible exact hb0 | with_reducible refine Below.drew ?_ | with_reducible refine below_drewN ?_ _ | with_reducible refine Below.alloc ?_ (by have := hb0.size; first | (simp; done) | (simp; omega) | omega) _ | with_reducible refine Below.setCell ?_ (by first | (simp; done) | (simp; omega) | omega) _)) hc1
    have O_0 : w1.cell? ⟨w.heap.size, 0, none⟩ = some (.int .u32 E) := (hc1.cell (p := ⟨w.heap.size, 0, none⟩) (by first | (simp; done) | (simp; omega))).trans (by first | (simp; done) | go_simp)
    have O_1 : w1.cell? ⟨w.heap.size, 1, none⟩ = some (.int .u32 S) := (hc1.cell (p := ⟨w.heap.size, 1, none⟩) (by first | (simp; done) | (simp; omega))).trans (by first | (simp; done) | go_simp)
    have O_l : w.heap.size < w1.heap.size := Nat.lt_of_lt_of_le (by first | (simp; done) | (simp; omega)) hc1.size
    clear hc1 hb0
    go_wp2_with fail
    go_ret
    exact ⟨rfl, by repeat' (first | with_reducible exact hb1 | with_reducible refine Below.drew ?_ | with_reducible refine below_drewN ?_ _ | with_reducible refine Below.alloc ?_ (by have := hb1.size; first | (simp; done) | (simp; omega) | omega) _ | with_reducible refine Below.setCell ?_ (by first | (simp; done) | (simp; omega) | omega) _)⟩
theorem rverify_all (y E S : Int) (bs : List Int) (a : Option Addr) (n c : Nat) (w : World) (y0 : 0 ≤ y) (y4 : y < 4294967296) (hE0 : 0 ≤ E) (hE4 : E < 4294967296) (hS0 : 0 ≤ S) (hS4 : S < 4294967296) (hm : MsgIn w a n bs) :
    Calls Tryd.prog 11 #[.int .u32 y, .slice a n c, .agg #[.int .u32 E, .int .u32 S]] w fun e w' =>
      e = .returned (.int .i64 (verZ y E S bs)) ∧ Below w.heap.size w w' := by
  unfold verZ
  cases h : isB y with
  | false => exact rverify_no y E S a n c w y0 y4 h
  | true =>
    rw [if_neg (by decide)]
    by_cases hl : 9991 < bs.length
    · rw [if_pos hl]; exact rverify_many y E S a n c w y0 y4 h (hm.len ▸ hl)
    · rw [if_neg hl]
      have hn : n ≤ 9991 := by have := hm.len; omega
      by_cases hb : 500000003 ≤ E ∨ 500000003 ≤ S
      · rw [if_pos hb]; exact rverify_on y E S false a n c w y0 y4 h hn fun w1 _ => rright_big y E S a n c w1 hE0 hE4 hS0 hS4 hb
      · rw [if_neg hb]
        have := rverify_on y E S (chaP (backR y E S) y bs == E) a n c w y0 y4 h hn fun w1 hb1 => rright_go y E S bs a n c w1 h (hm.later hb1) hn hE0 (by omega) hS0 (by omega)
        simpa only [beq_iff_eq] using this

open Go.ChangeShapes Go.WideShapes Go.ChangeAt Go.RowKit

theorem cells_sig : Tryd.prog.cellsOf 25 = 2 := by kernel_rfl
structure SigIn (E S : Int) : Prop where
  e : (Lit.int .u32 E).wf = true
  s : (Lit.int .u32 S).wf = true
theorem open_sig {H : Type} {enc : TypeId × Value → H} {w : World} {r : Reach} {b0 base : Nat} {held : Bool} {v : Value} {d : DataW H} {p : List MemPlace}
    (hv : Value.okWide Tryd.prog w r b0 25 v) (h : DataW.Trod enc Tryd.prog w base (fun _ => true) held 25 v d p) :
    ∃ E S : Int, v = .agg #[.int .u32 E, .int .u32 S] ∧ SigIn E S := by
  obtain ⟨cs, rfl, hs⟩ := okWide_struct Tryd.underlying25 hv
  rw [cells_sig] at hs
  obtain ⟨fuel, hf⟩ := h
  obtain ⟨xs, n, rfl, _, _, hxl, hfl⟩ := DataW.trod_struct Tryd.underlying25 hf
  have f0 := hfl 0 _ rfl
  have f1 := hfl 1 _ rfl
  simp only [Value.cells] at f0 f1
  obtain ⟨l, rfl⟩ : ∃ l : List Value, cs = l.toArray := ⟨cs.toList, by simp⟩
  simp only [List.size_toArray] at hs
  match l, hs with
  | [c0, c1], _ =>
    simp at hxl
    match xs, hxl with
    | [x0, x1], _ =>
      obtain ⟨E, e0, _, w0⟩ := DataW.trod_int (k := .u32) Tryd.underlying22 f0
      obtain ⟨S, e1, _, w1⟩ := DataW.trod_int (k := .u32) Tryd.underlying22 f1
      simp [cells_u32] at e0 e1
      subst e0 e1
      exact ⟨E, S, rfl, w0, w1⟩
theorem BytesIn.msg {w : World} {a : Option Addr} {bs : List Int} (h : BytesIn w a bs) : MsgIn w a bs.length bs := ⟨rfl, h.cells, h.bytes⟩

end Go.Proofs.YtdlacedminebdaaDoor
