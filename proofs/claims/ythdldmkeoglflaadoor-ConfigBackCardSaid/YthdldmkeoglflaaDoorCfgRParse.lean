/- braidref44.Parse. -/
import Derived.Test.YthdldmkeoglflaaDoorCfgTxtP
import Derived.Test.YthdldmkeoglflaaDoorCfgTxtR
import Derived.Test.YthdldmkeoglflaaDoorCfgParse
namespace Go.Proofs.YthdldmkeoglflaaDoor
set_option linter.unusedSimpArgs false
set_option linter.unusedVariables false
set_option linter.unnecessarySimpa false
open Go.RowKit

theorem rCut10 (b : ByteArray) (w : World) (hb : b.size ≤ 100000) :
    Calls Tryd.prog 15 #[.string b, .int .u8 10] w fun e w' =>
      (∃ a cp, e = .returned (.slice a (splitS 10 b).length cp) ∧ OwnX w' w.heap.size 9 1 (.slice a (splitS 10 b).length cp) (splitS 10 b).length ((splitS 10 b).map Value.string)) ∧ Below w.heap.size w w' := rCut_any 10 b w hb
theorem rCut32 (b : ByteArray) (w : World) (hb : b.size ≤ 100000) :
    Calls Tryd.prog 15 #[.string b, .int .u8 32] w fun e w' =>
      (∃ a cp, e = .returned (.slice a (splitS 32 b).length cp) ∧ OwnX w' w.heap.size 9 1 (.slice a (splitS 32 b).length cp) (splitS 32 b).length ((splitS 32 b).map Value.string)) ∧ Below w.heap.size w w' := rCut_any 32 b w hb
theorem rNumL (b : ByteArray) (w : World) :
    Calls Tryd.prog 63 #[.string b, .int .u64 1000] w fun e w' =>
      NumOut e (numR b.data.toList 1000) ∧ Below w.heap.size w w' := rNumber_any b 1000 w
theorem rNumK (b : ByteArray) (w : World) :
    Calls Tryd.prog 63 #[.string b, .int .u64 4294967295] w fun e w' =>
      NumOut e (numR b.data.toList 4294967295) ∧ Below w.heap.size w w' := rNumber_any b 4294967295 w
set_option maxRecDepth 100000 in
set_option maxHeartbeats 8000000 in
theorem rParse_any (b : ByteArray) (w : World) (hb : b.size ≤ 100000) :
    Calls Tryd.prog 28 #[.string b] w fun e w' =>
      RetS w' e (pzR b) ∧ Below w.heap.size w w' := by
  obtain ⟨R, hR⟩ : ∃ R, pzR b = R := ⟨_, rfl⟩
  rw [hR]
  by_cases h1 : 1000 < b.size
  · have h1' : (1000 : Int) < (b.size : Int) := by omega
    have hr2 : zOut 4 = R := by rw [← hR]; unfold pzR; rw [if_pos h1]
    have H_hR := Box.mk hR
    have H_hr2 := Box.mk hr2
    clear hR hr2
    go_enter Tryd.func28, Tryd.ntmps28
    have hb0 := Below.refl w.heap.size w
    go_wp2_with fail
    refine bodyPost_ret (v := .tuple #[.agg #[.int .i64 0, .int .i64 0, .int .i64 0, .int .i64 0, .int .i64 0, .int .i64 0, .int .i64 0, .int .i64 0, .int .i64 0, .int .u32 0, .slice none 0 0], .int .i64 4]) (by simp [results, Tryd.results28, go_sem, *]) rfl ⟨RetS.of (r := zOut 4) ⟨none, 0, rfl, .inl rfl⟩ H_hr2.out, (by repeat' (first | with_reducible exact hb0 | with_reducible refine Below.drew ?_ | with_reducible refine below_drewN ?_ _ | with_reducible refine Below.alloc ?_ (by have := hb0.size; first | (simp; done) | (simp; omega) | omega) _ | with_reducible refine Below.setCell ?_ (by first | (simp; done) | (simp; omega) | omega) _))⟩
  have h1' : ¬ (1000 : Int) < (b.size : Int) := by omega
  have hno : NoT b → zOut 12 = R := fun h => (pz_no h h1).symm.trans hR
  have hn1 := noT_len (b := b)
  have hcut := fun W => (rCut10 b W hb).mono fun e w' h => (show (∃ a cp, e = Ending.returned (.slice a (splitS 10 b).length cp) ∧ OwnX w' W.heap.size 9 1 (.slice a (splitS 10 b).length cp) (splitS 10 b).length ((splitS 10 b).map Value.string)) ∧ Below W.heap.size W w' ∧ Below W.heap.size W w' from ⟨h.1, h.2, h.2⟩)
  have hrl := ls_len b
  have hxs : ∀ x ∈ splitS 10 b, x.size ≤ 100000 := fun x hx => by
    unfold splitS at hx
    obtain ⟨y, hy, rfl⟩ := List.mem_map.1 hx
    have h3 := cutA_mem 10 [] _ y hy
    have h4 : b.data.toList.length = b.size := Array.length_toList
    rw [bsB_size]
    simp only [List.length_nil, Nat.zero_add] at h3
    omega
  have hnl := fun k x (hk : k < 9) (hx : (splitS 10 b)[k]? = some x) => noT_lim (b := b) hk hx
  have hns := fun x (hx : (splitS 10 b)[9]? = some x) => noT_sec (b := b) hx
  have hn3 := fun k x (hk : 10 ≤ k) (hx : (splitS 10 b)[k]? = some x) => noT_three (b := b) hk hx
  have hnk := fun k x (hk : 10 ≤ k) (hx : (splitS 10 b)[k]? = some x) => noT_key (b := b) hk hx
  have hne := noT_end (b := b)
  have hra := fun i x (hx : (splitS 10 b)[i]? = some x) => rows_at (b := b) hx
  obtain ⟨rows, hrows⟩ : ∃ rows, rowsL b.data.toList = rows := ⟨_, rfl⟩
  obtain ⟨ls, hls⟩ : ∃ ls, splitS 10 b = ls := ⟨_, rfl⟩
  obtain ⟨n0, hn0⟩ : ∃ n0, ls.length = n0 := ⟨_, rfl⟩
  simp only [hrows, hls, hn0] at hn1 hcut hrl hxs hnl hns hn3 hnk hne hra
  have H_hR := Box.mk hR
  have H_hrows := Box.mk hrows
  have H_hls := Box.mk hls
  clear hR hrows hls
  by_cases hb1 : n0 < 11
  · have hb1' : (n0 : Int) < 11 := by omega
    have hr2 := hno (hn1 (.inl hb1))
    have H_hr2 := Box.mk hr2
    have H_hno := Box.mk hno
    have H_hn1 := Box.mk hn1
    have H_hcut := Box.mk hcut
    have H_hrl := Box.mk hrl
    have H_hxs := Box.mk hxs
    have H_hnl := Box.mk hnl
    have H_hns := Box.mk hns
    have H_hn3 := Box.mk hn3
    have H_hnk := Box.mk hnk
    have H_hne := Box.mk hne
    have H_hra := Box.mk hra
    have H_hn0 := Box.mk hn0
    clear hr2 hno hn1 hcut hrl hxs hnl hns hn3 hnk hne hra hn0
    go_enter Tryd.func28, Tryd.ntmps28
    have hb0 := Below.refl w.heap.size w
    go_wp2_with fail
    with_reducible refine (H_hcut.out _).mono ?_
    rintro e w1 ⟨⟨a, cp, rfl, hrow⟩, hk1, hc1⟩
    have hb1 : Below w.heap.size w w1 := bchain (by repeat' (first | with_reducible exact hb0 | with_reducible refine Below.drew ?_ | with_reducible refine below_drewN ?_ _ | with_reducible refine Below.alloc ?_ (by have := hb0.size; first | (simp; done) | (simp; omega) | omega) _ | with_reducible refine Below.setCell ?_ (by first | (simp; done) | (simp; omega) | omega) _)) hc1
    clear hc1 hb0
    have hRB : Blk w1 w.heap.size 27 [.int .i64 0, .int .i64 0, .int .i64 0, .int .i64 0, .int .i64 0, .int .i64 0, .int .i64 0, .int .i64 0, .int .i64 0, .int .u32 0, .slice none 0 0] := (Blk.newA w _ _ 27 [.int .i64 0, .int .i64 0, .int .i64 0, .int .i64 0, .int .i64 0, .int .i64 0, .int .i64 0, .int .i64 0, .int .i64 0, .int .u32 0, .slice none 0 0] rfl rfl).later hk1
    clear hk1
    have R_0 := hRB.cell (j := 0) rfl
    have R_1 := hRB.cell (j := 1) rfl
    have R_2 := hRB.cell (j := 2) rfl
    have R_3 := hRB.cell (j := 3) rfl
    have R_4 := hRB.cell (j := 4) rfl
    have R_5 := hRB.cell (j := 5) rfl
    have R_6 := hRB.cell (j := 6) rfl
    have R_7 := hRB.cell (j := 7) rfl
    have R_8 := hRB.cell (j := 8) rfl
    have R_9 := hRB.cell (j := 9) rfl
    have R_10 := hRB.cell (j := 10) rfl
    have R_f0 := hRB.free 0
    have R_f1 := hRB.free 1
    have R_f2 := hRB.free 2
    have R_f3 := hRB.free 3
    have R_f4 := hRB.free 4
    have R_f5 := hRB.free 5
    have R_f6 := hRB.free 6
    have R_f7 := hRB.free 7
    have R_f8 := hRB.free 8
    have R_f9 := hRB.free 9
    have R_f10 := hRB.free 10
    go_wp2_with fail
    refine bodyPost_ret (v := .tuple #[.agg #[.int .i64 0, .int .i64 0, .int .i64 0, .int .i64 0, .int .i64 0, .int .i64 0, .int .i64 0, .int .i64 0, .int .i64 0, .int .u32 0, .slice none 0 0], .int .i64 12]) (by simp [results, Tryd.results28, go_sem, *]) rfl ⟨RetS.of (r := zOut 12) ⟨none, 0, rfl, .inl rfl⟩ H_hr2.out, (by repeat' (first | with_reducible exact hb1 | with_reducible refine Below.drew ?_ | with_reducible refine below_drewN ?_ _ | with_reducible refine Below.alloc ?_ (by have := hb1.size; first | (simp; done) | (simp; omega) | omega) _ | with_reducible refine Below.setCell ?_ (by first | (simp; done) | (simp; omega) | omega) _))⟩
  have hb1' : ¬ (n0 : Int) < 11 := by omega
  by_cases hb2 : 19 < n0
  · have hb2' : (19 : Int) < (n0 : Int) := by omega
    have hr2 := hno (hn1 (.inr hb2))
    have H_hr2 := Box.mk hr2
    have H_hno := Box.mk hno
    have H_hn1 := Box.mk hn1
    have H_hcut := Box.mk hcut
    have H_hrl := Box.mk hrl
    have H_hxs := Box.mk hxs
    have H_hnl := Box.mk hnl
    have H_hns := Box.mk hns
    have H_hn3 := Box.mk hn3
    have H_hnk := Box.mk hnk
    have H_hne := Box.mk hne
    have H_hra := Box.mk hra
    have H_hn0 := Box.mk hn0
    clear hr2 hno hn1 hcut hrl hxs hnl hns hn3 hnk hne hra hn0
    go_enter Tryd.func28, Tryd.ntmps28
    have hb0 := Below.refl w.heap.size w
    go_wp2_with fail
    with_reducible refine (H_hcut.out _).mono ?_
    rintro e w1 ⟨⟨a, cp, rfl, hrow⟩, hk1, hc1⟩
    have hb1 : Below w.heap.size w w1 := bchain (by repeat' (first | with_reducible exact hb0 | with_reducible refine Below.drew ?_ | with_reducible refine below_drewN ?_ _ | with_reducible refine Below.alloc ?_ (by have := hb0.size; first | (simp; done) | (simp; omega) | omega) _ | with_reducible refine Below.setCell ?_ (by first | (simp; done) | (simp; omega) | omega) _)) hc1
    clear hc1 hb0
    have hRB : Blk w1 w.heap.size 27 [.int .i64 0, .int .i64 0, .int .i64 0, .int .i64 0, .int .i64 0, .int .i64 0, .int .i64 0, .int .i64 0, .int .i64 0, .int .u32 0, .slice none 0 0] := (Blk.newA w _ _ 27 [.int .i64 0, .int .i64 0, .int .i64 0, .int .i64 0, .int .i64 0, .int .i64 0, .int .i64 0, .int .i64 0, .int .i64 0, .int .u32 0, .slice none 0 0] rfl rfl).later hk1
    clear hk1
    have R_0 := hRB.cell (j := 0) rfl
    have R_1 := hRB.cell (j := 1) rfl
    have R_2 := hRB.cell (j := 2) rfl
    have R_3 := hRB.cell (j := 3) rfl
    have R_4 := hRB.cell (j := 4) rfl
    have R_5 := hRB.cell (j := 5) rfl
    have R_6 := hRB.cell (j := 6) rfl
    have R_7 := hRB.cell (j := 7) rfl
    have R_8 := hRB.cell (j := 8) rfl
    have R_9 := hRB.cell (j := 9) rfl
    have R_10 := hRB.cell (j := 10) rfl
    have R_f0 := hRB.free 0
    have R_f1 := hRB.free 1
    have R_f2 := hRB.free 2
    have R_f3 := hRB.free 3
    have R_f4 := hRB.free 4
    have R_f5 := hRB.free 5
    have R_f6 := hRB.free 6
    have R_f7 := hRB.free 7
    have R_f8 := hRB.free 8
    have R_f9 := hRB.free 9
    have R_f10 := hRB.free 10
    go_wp2_with fail
    refine bodyPost_ret (v := .tuple #[.agg #[.int .i64 0, .int .i64 0, .int .i64 0, .int .i64 0, .int .i64 0, .int .i64 0, .int .i64 0, .int .i64 0, .int .i64 0, .int .u32 0, .slice none 0 0], .int .i64 12]) (by simp [results, Tryd.results28, go_sem, *]) rfl ⟨RetS.of (r := zOut 12) ⟨none, 0, rfl, .inl rfl⟩ H_hr2.out, (by repeat' (first | with_reducible exact hb1 | with_reducible refine Below.drew ?_ | with_reducible refine below_drewN ?_ _ | with_reducible refine Below.alloc ?_ (by have := hb1.size; first | (simp; done) | (simp; omega) | omega) _ | with_reducible refine Below.setCell ?_ (by first | (simp; done) | (simp; omega) | omega) _))⟩
  have hb2' : ¬ (19 : Int) < (n0 : Int) := by omega
  replace hnl := fun k x hk hx hv => hno (hnl k x hk hx (by omega) hv)
  replace hns := fun x hx hv => hno (hns x hx (by omega) hv)
  replace hn3 := fun k x hk hx hl hv => hno (hn3 k x hk hx hl hv)
  replace hnk := fun k x hk hx hl hv => hno (hnk k x hk hx hl hv)
  replace hne := fun h => hno (hne h)
  clear hn1
  have H_hno := Box.mk hno
  have H_hcut := Box.mk hcut
  have H_hrl := Box.mk hrl
  have H_hxs := Box.mk hxs
  have H_hnl := Box.mk hnl
  have H_hns := Box.mk hns
  have H_hn3 := Box.mk hn3
  have H_hnk := Box.mk hnk
  have H_hne := Box.mk hne
  have H_hra := Box.mk hra
  have H_hn0 := Box.mk hn0
  clear hno hcut hrl hxs hnl hns hn3 hnk hne hra hn0
  go_enter Tryd.func28, Tryd.ntmps28
  have hb0 := Below.refl w.heap.size w
  go_wp2_with fail
  with_reducible refine (H_hcut.out _).mono ?_
  rintro e w1 ⟨⟨a, cp, rfl, hrow⟩, hk1, hc1⟩
  have hb1 : Below w.heap.size w w1 := bchain (by repeat' (first | with_reducible exact hb0 | with_reducible refine Below.drew ?_ | with_reducible refine below_drewN ?_ _ | with_reducible refine Below.alloc ?_ (by have := hb0.size; first | (simp; done) | (simp; omega) | omega) _ | with_reducible refine Below.setCell ?_ (by first | (simp; done) | (simp; omega) | omega) _)) hc1
  clear hc1 hb0
  have hRB : Blk w1 w.heap.size 27 [.int .i64 0, .int .i64 0, .int .i64 0, .int .i64 0, .int .i64 0, .int .i64 0, .int .i64 0, .int .i64 0, .int .i64 0, .int .u32 0, .slice none 0 0] := (Blk.newA w _ _ 27 [.int .i64 0, .int .i64 0, .int .i64 0, .int .i64 0, .int .i64 0, .int .i64 0, .int .i64 0, .int .i64 0, .int .i64 0, .int .u32 0, .slice none 0 0] rfl rfl).later hk1
  replace hrow := hrow.mono (base' := w.heap.size + 1) (by simp)
  have hwz := hk1.size
  clear hk1
  obtain ⟨B, hB⟩ : ∃ B, w.heap.size = B := ⟨_, rfl⟩
  obtain ⟨NB, hNB⟩ : ∃ NB, w1.heap.size = NB := ⟨_, rfl⟩
  have hBN : B < NB := by rw [← hB, ← hNB]; simp at hwz; omega
  clear hwz
  obtain ⟨ga, rfl, hga, hgl, -, -⟩ := hrow.at (by omega)
  have hgN : ga < NB := hNB ▸ hgl
  clear hga hgl
  go_wp2_with fail
  simp only [hB, hNB] at hRB hrow ⊢
  go_loopw [6] (fun v6 wr => ∃ k : Nat, k ≤ 9 ∧ v6 = .int .i64 k ∧ Below w.heap.size w wr ∧ Blk wr B 27 [.int .i64 0, .int .i64 0, .int .i64 0, .int .i64 0, .int .i64 0, .int .i64 0, .int .i64 0, .int .i64 0, .int .i64 0, .int .u32 0, .slice none 0 0] ∧ Blk wr NB 73 ((limsM rows k).map (Value.int .i64)) ∧ OwnX wr (B + 1) 9 1 (.slice (some ⟨ga, 0, none⟩) n0 cp) n0 (ls.map Value.string)) (fun v6 _ => 9 - (intOf v6).toNat)
  case atStart => exact ⟨0, Nat.zero_le _, rfl, (by repeat' (first | with_reducible exact hb1 | with_reducible refine Below.drew ?_ | with_reducible refine below_drewN ?_ _ | with_reducible refine Below.alloc ?_ (by have := hb1.size; first | (simp; done) | (simp; omega) | omega) _ | with_reducible refine Below.setCell ?_ (by first | (simp; done) | (simp; omega) | omega) _)), hRB.alloc _, Blk.newA w1 _ _ 73 ((limsM rows 0).map (Value.int .i64)) hNB rfl, hrow.alloc _⟩
  case round =>
    clear hRB hrow
    obtain ⟨k, hk9, rfl, hbw, hRB, hNBk, hrow⟩ := hrel
    obtain ⟨_, eg, hga, -, hcv, -⟩ := hrow.at (by omega)
    cases eg
    by_cases hlt : k < 9
    · have hlt' : (k : Int) < 9 := by omega
      have hkn : (k : Int) < (n0 : Int) := by omega
      obtain ⟨x, hx⟩ : ∃ x, ls[k]? = some x := ⟨_, List.getElem?_eq_getElem (by have := H_hn0.out; omega)⟩
      have cx : wr.cell? ⟨ga, k, none⟩ = some (.string x) := hcv k _ (by rw [List.getElem?_map, hx]; rfl)
      have hxz := H_hxs.out x (List.mem_of_getElem? hx)
      have hrk := H_hra.out k x hx (by omega)
      have hcall := fun W => rCut32 x W hxz
      have hr1 := (splitS_len 32 x).1
      obtain ⟨r, hr⟩ : ∃ r, splitS 32 x = r := ⟨_, rfl⟩
      have hnl := H_hnl.out k x hlt hx
      rw [hr] at hrk hr1 hnl
      simp only [hr] at hcall
      obtain ⟨m, hm⟩ : ∃ m, r.length = m + 1 := ⟨r.length - 1, by omega⟩
      have hlm : (r.map Value.string)[m]? = some (.string (lastB r)) := by
        unfold lastB; rw [show r.length - 1 = m by omega, List.getElem?_map, List.getElem?_eq_getElem (by omega)]; rfl
      have hlim : limM rows k = numZ (lastB r) 1000 := limM_at hrk
      obtain ⟨y, hy⟩ : ∃ y, lastB r = y := ⟨_, rfl⟩
      rw [hy] at hlm hlim hnl
      simp only [hm] at hcall
      have hnum := fun W => rNumL y W
      have e1 : ((m + 1 : Nat) : Int) - 1 = m := by omega
      have e2 : (m : Int) < ((m + 1 : Nat) : Int) := by omega
      have hl2 : limsM rows (k + 1) = (limsM rows k).set k (numZ y 1000) := by rw [limsM_set hlt, hlim]
      have hml : m ≤ 200000 := by
        have := (splitS_len 32 x).2
        rw [hr] at this; omega
      clear hcv
      have H_hr := Box.mk hr
      have H_hm := Box.mk hm
      have H_hlm := Box.mk hlm
      have H_hlim := Box.mk hlim
      have H_hy := Box.mk hy
      have H_hrk := Box.mk hrk
      have H_hnl := Box.mk hnl
      have H_hl2 := Box.mk hl2
      have H_hx := Box.mk hx
      have H_hcall := Box.mk hcall
      have H_hnum := Box.mk hnum
      clear hr hm hlm hlim hy hrk hnl hl2 hx hcall hnum
      go_wp2_with fail
      with_reducible refine (H_hcall.out _).mono ?_
      rintro e w11 ⟨⟨a2, c2, rfl, hw⟩, hc11⟩
      have hb11 : Below w.heap.size w w11 := bchain (by repeat' (first | with_reducible exact hbw | with_reducible refine Below.drew ?_ | with_reducible refine below_drewN ?_ _ | with_reducible refine Below.alloc ?_ (by have := hbw.size; first | (simp; done) | (simp; omega) | omega) _ | with_reducible refine Below.setCell ?_ (by first | (simp; done) | (simp; omega) | omega) _)) hc11
      have hst11 : Below wr.heap.size wr w11 := bchain (by repeat' (first | with_reducible exact Below.refl _ _ | with_reducible refine Below.drew ?_ | with_reducible refine below_drewN ?_ _ | with_reducible refine Below.alloc ?_ (by first | (simp; done) | (simp; omega) | omega) _ | with_reducible refine Below.setCell ?_ (by first | (simp; done) | (simp; omega) | omega) _)) hc11
      replace hRB := hRB.later hst11
      replace hNBk := hNBk.later hst11
      replace hrow := hrow.later hst11
      clear hst11
      clear hc11 hbw
      obtain ⟨g2, rfl, hg2, hgl2, hcv2, -⟩ := hw.at (by omega)
      have cl := hcv2 m _ H_hlm.out
      clear hcv2 hw
      go_wp2_with fail
      with_reducible refine (H_hnum.out _).mono ?_
      rintro e w12 ⟨⟨v, ok, rfl, hv⟩, hc12⟩
      have hb12 : Below w.heap.size w w12 := bchain (by repeat' (first | with_reducible exact hb11 | with_reducible refine Below.drew ?_ | with_reducible refine below_drewN ?_ _ | with_reducible refine Below.alloc ?_ (by have := hb11.size; first | (simp; done) | (simp; omega) | omega) _ | with_reducible refine Below.setCell ?_ (by first | (simp; done) | (simp; omega) | omega) _)) hc12
      have hst12 : Below w11.heap.size w11 w12 := bchain (by repeat' (first | with_reducible exact Below.refl _ _ | with_reducible refine Below.drew ?_ | with_reducible refine below_drewN ?_ _ | with_reducible refine Below.alloc ?_ (by first | (simp; done) | (simp; omega) | omega) _ | with_reducible refine Below.setCell ?_ (by first | (simp; done) | (simp; omega) | omega) _)) hc12
      replace hRB := hRB.later hst12
      replace hNBk := hNBk.later hst12
      replace hrow := hrow.later hst12
      clear hst12
      clear hc12 hb11
      cases ok with
      | false =>
        have hr2 := H_hnl.out (by simpa using hv)
        clear hv
        have H_hr2 := Box.mk hr2
        clear hr2
        have R_0 := hRB.cell (j := 0) rfl
        have R_1 := hRB.cell (j := 1) rfl
        have R_2 := hRB.cell (j := 2) rfl
        have R_3 := hRB.cell (j := 3) rfl
        have R_4 := hRB.cell (j := 4) rfl
        have R_5 := hRB.cell (j := 5) rfl
        have R_6 := hRB.cell (j := 6) rfl
        have R_7 := hRB.cell (j := 7) rfl
        have R_8 := hRB.cell (j := 8) rfl
        have R_9 := hRB.cell (j := 9) rfl
        have R_10 := hRB.cell (j := 10) rfl
        have R_f0 := hRB.free 0
        have R_f1 := hRB.free 1
        have R_f2 := hRB.free 2
        have R_f3 := hRB.free 3
        have R_f4 := hRB.free 4
        have R_f5 := hRB.free 5
        have R_f6 := hRB.free 6
        have R_f7 := hRB.free 7
        have R_f8 := hRB.free 8
        have R_f9 := hRB.free 9
        have R_f10 := hRB.free 10
        go_wp2_with fail
        refine bodyPost_ret (v := .tuple #[.agg #[.int .i64 0, .int .i64 0, .int .i64 0, .int .i64 0, .int .i64 0, .int .i64 0, .int .i64 0, .int .i64 0, .int .i64 0, .int .u32 0, .slice none 0 0], .int .i64 12]) (by simp [results, Tryd.results28, go_sem, *]) rfl ⟨RetS.of (r := zOut 12) ⟨none, 0, rfl, .inl rfl⟩ H_hr2.out, (by repeat' (first | with_reducible exact hb12 | with_reducible refine Below.drew ?_ | with_reducible refine below_drewN ?_ _ | with_reducible refine Below.alloc ?_ (by have := hb12.size; first | (simp; done) | (simp; omega) | omega) _ | with_reducible refine Below.setCell ?_ (by first | (simp; done) | (simp; omega) | omega) _))⟩
      | true =>
        have hv2 : numR y.data.toList 1000 = some v := by simpa using hv
        have hvl := numR_le hv2
        have hwv : IntKind.i64.wrap (v : Int) = v := by rw [IntKind.wrap_i64]; omega
        have hzv : limsM rows (k + 1) = (limsM rows k).set k (v : Int) := by rw [H_hl2.out, numZ_some hv2]
        clear hv hv2
        have fL := hNBk.free k
        have cL : w12.cell? ⟨NB, k, none⟩ = some (.int .i64 ((limsM rows k)[k]?.getD 0)) := hNBk.cellI (by rw [limsM_len]; exact hlt)
        have H_hzv := Box.mk hzv
        clear hzv
        go_wp2_with fail
        go_roundw
        case rel => exact ⟨k + 1, hlt, by go_num, (by repeat' (first | with_reducible exact hb12 | with_reducible refine Below.drew ?_ | with_reducible refine below_drewN ?_ _ | with_reducible refine Below.alloc ?_ (by have := hb12.size; first | (simp; done) | (simp; omega) | omega) _ | with_reducible refine Below.setCell ?_ (by first | (simp; done) | (simp; omega) | omega) _)), hRB.setFar (by first | (simp; done) | (simp; omega) | omega) _, by rw [H_hzv.out]; exact hNBk.setI k v, hrow.setFar (by simp [Value.ownBlock]; omega) _⟩
        case measure => simp [intOf]; omega
    · obtain rfl : k = 9 := by omega
      have hkn : (9 : Int) < (n0 : Int) := by omega
      obtain ⟨x, hx⟩ : ∃ x, ls[9]? = some x := ⟨_, List.getElem?_eq_getElem (by have := H_hn0.out; omega)⟩
      have cx : wr.cell? ⟨ga, 9, none⟩ = some (.string x) := hcv 9 _ (by rw [List.getElem?_map, hx]; rfl)
      have hxz := H_hxs.out x (List.mem_of_getElem? hx)
      have hrk := H_hra.out 9 x hx (by omega)
      have hcall := fun W => rCut32 x W hxz
      have hr1 := (splitS_len 32 x).1
      obtain ⟨r, hr⟩ : ∃ r, splitS 32 x = r := ⟨_, rfl⟩
      have hns := H_hns.out x hx
      rw [hr] at hrk hr1 hns
      simp only [hr] at hcall
      obtain ⟨m, hm⟩ : ∃ m, r.length = m + 1 := ⟨r.length - 1, by omega⟩
      have hlm : (r.map Value.string)[m]? = some (.string (lastB r)) := by
        unfold lastB; rw [show r.length - 1 = m by omega, List.getElem?_map, List.getElem?_eq_getElem (by omega)]; rfl
      have hsec : secM rows = numZ (lastB r) 4294967295 := secM_at hrk
      obtain ⟨y, hy⟩ : ∃ y, lastB r = y := ⟨_, rfl⟩
      rw [hy] at hlm hsec hns
      simp only [hm] at hcall
      have hnum := fun W => rNumK y W
      have e1 : ((m + 1 : Nat) : Int) - 1 = m := by omega
      have e2 : (m : Int) < ((m + 1 : Nat) : Int) := by omega
      have hml : m ≤ 200000 := by
        have := (splitS_len 32 x).2
        rw [hr] at this; omega
      obtain ⟨rl, hrl⟩ : ∃ rl, rows.length = rl := ⟨_, rfl⟩
      have hn01 : rl + 1 = n0 := by rw [← hrl]; exact H_hrl.out
      have e3 : (n0 : Int) - 1 = rl := by omega
      have hne := H_hne.out
      rw [hrl] at hne
      rw [limsM_9] at hNBk
      obtain ⟨L, hL⟩ : ∃ L, readM rows = L := ⟨_, rfl⟩
      rw [hL] at hNBk hne
      obtain ⟨l0, l1, l2, l3, l4, l5, l6, l7, l8⟩ := L
      have hend : ∀ s, secM rows = s → ∀ ps, peersM rows rl = ps → CV (⟨l0, l1, l2, l3, l4, l5, l6, l7, l8⟩ : Lim) s ps → textL (⟨l0, l1, l2, l3, l4, l5, l6, l7, l8⟩ : Lim) s ps = b.data.toList → (⟨(⟨l0, l1, l2, l3, l4, l5, l6, l7, l8⟩ : Lim), s, ps, 0⟩ : SOut) = R := fun s hs ps hps hcv ht => by
        have hkk : Keys ps := hps ▸ peersM_keys rows rl
        rw [← H_hR.out]
        exact (pz_of hcv hkk ht).symm
      clear hcv
      have H_hr := Box.mk hr
      have H_hm := Box.mk hm
      have H_hlm := Box.mk hlm
      have H_hsec := Box.mk hsec
      have H_hy := Box.mk hy
      have H_hrk := Box.mk hrk
      have H_hns := Box.mk hns
      have H_hx := Box.mk hx
      have H_hcall := Box.mk hcall
      have H_hnum := Box.mk hnum
      have H_hrl := Box.mk hrl
      have H_hne := Box.mk hne
      have H_hL := Box.mk hL
      have H_hend := Box.mk hend
      clear hr hm hlm hsec hy hrk hns hx hcall hnum hrl hne hL hend
      go_wp2_with fail
      with_reducible refine (H_hcall.out _).mono ?_
      rintro e w21 ⟨⟨a2, c2, rfl, hw⟩, hc21⟩
      have hb21 : Below w.heap.size w w21 := bchain (by repeat' (first | with_reducible exact hbw | with_reducible refine Below.drew ?_ | with_reducible refine below_drewN ?_ _ | with_reducible refine Below.alloc ?_ (by have := hbw.size; first | (simp; done) | (simp; omega) | omega) _ | with_reducible refine Below.setCell ?_ (by first | (simp; done) | (simp; omega) | omega) _)) hc21
      have hst21 : Below wr.heap.size wr w21 := bchain (by repeat' (first | with_reducible exact Below.refl _ _ | with_reducible refine Below.drew ?_ | with_reducible refine below_drewN ?_ _ | with_reducible refine Below.alloc ?_ (by first | (simp; done) | (simp; omega) | omega) _ | with_reducible refine Below.setCell ?_ (by first | (simp; done) | (simp; omega) | omega) _)) hc21
      replace hRB := hRB.later hst21
      replace hNBk := hNBk.later hst21
      replace hrow := hrow.later hst21
      clear hst21
      clear hc21 hbw
      obtain ⟨g2, rfl, hg2, hgl2, hcv2, -⟩ := hw.at (by omega)
      have cl := hcv2 m _ H_hlm.out
      clear hcv2 hw
      go_wp2_with fail
      with_reducible refine (H_hnum.out _).mono ?_
      rintro e w22 ⟨⟨v, ok, rfl, hv⟩, hc22⟩
      have hb22 : Below w.heap.size w w22 := bchain (by repeat' (first | with_reducible exact hb21 | with_reducible refine Below.drew ?_ | with_reducible refine below_drewN ?_ _ | with_reducible refine Below.alloc ?_ (by have := hb21.size; first | (simp; done) | (simp; omega) | omega) _ | with_reducible refine Below.setCell ?_ (by first | (simp; done) | (simp; omega) | omega) _)) hc22
      have hst22 : Below w21.heap.size w21 w22 := bchain (by repeat' (first | with_reducible exact Below.refl _ _ | with_reducible refine Below.drew ?_ | with_reducible refine below_drewN ?_ _ | with_reducible refine Below.alloc ?_ (by first | (simp; done) | (simp; omega) | omega) _ | with_reducible refine Below.setCell ?_ (by first | (simp; done) | (simp; omega) | omega) _)) hc22
      replace hRB := hRB.later hst22
      replace hNBk := hNBk.later hst22
      replace hrow := hrow.later hst22
      clear hst22
      clear hc22 hb21
      cases ok with
      | false =>
        have hr2 := H_hns.out (by simpa using hv)
        clear hv
        have H_hr2 := Box.mk hr2
        clear hr2
        have R_0 := hRB.cell (j := 0) rfl
        have R_1 := hRB.cell (j := 1) rfl
        have R_2 := hRB.cell (j := 2) rfl
        have R_3 := hRB.cell (j := 3) rfl
        have R_4 := hRB.cell (j := 4) rfl
        have R_5 := hRB.cell (j := 5) rfl
        have R_6 := hRB.cell (j := 6) rfl
        have R_7 := hRB.cell (j := 7) rfl
        have R_8 := hRB.cell (j := 8) rfl
        have R_9 := hRB.cell (j := 9) rfl
        have R_10 := hRB.cell (j := 10) rfl
        have R_f0 := hRB.free 0
        have R_f1 := hRB.free 1
        have R_f2 := hRB.free 2
        have R_f3 := hRB.free 3
        have R_f4 := hRB.free 4
        have R_f5 := hRB.free 5
        have R_f6 := hRB.free 6
        have R_f7 := hRB.free 7
        have R_f8 := hRB.free 8
        have R_f9 := hRB.free 9
        have R_f10 := hRB.free 10
        go_wp2_with fail
        refine bodyPost_ret (v := .tuple #[.agg #[.int .i64 0, .int .i64 0, .int .i64 0, .int .i64 0, .int .i64 0, .int .i64 0, .int .i64 0, .int .i64 0, .int .i64 0, .int .u32 0, .slice none 0 0], .int .i64 12]) (by simp [results, Tryd.results28, go_sem, *]) rfl ⟨RetS.of (r := zOut 12) ⟨none, 0, rfl, .inl rfl⟩ H_hr2.out, (by repeat' (first | with_reducible exact hb22 | with_reducible refine Below.drew ?_ | with_reducible refine below_drewN ?_ _ | with_reducible refine Below.alloc ?_ (by have := hb22.size; first | (simp; done) | (simp; omega) | omega) _ | with_reducible refine Below.setCell ?_ (by first | (simp; done) | (simp; omega) | omega) _))⟩
      | true =>
        have hv2 : numR y.data.toList 4294967295 = some v := by simpa using hv
        have hvl := numR_le hv2
        have hwv : IntKind.u32.wrap (v : Int) = v := by rw [IntKind.wrap_u32]; omega
        have hzv : secM rows = (v : Int) := by rw [H_hsec.out, numZ_some hv2]
        have hend := H_hend.out v hzv
        have hne := H_hne.out
        rw [hzv] at hne
        clear hv hv2 cl
        have L_0 := hNBk.cell (j := 0) rfl
        have L_1 := hNBk.cell (j := 1) rfl
        have L_2 := hNBk.cell (j := 2) rfl
        have L_3 := hNBk.cell (j := 3) rfl
        have L_4 := hNBk.cell (j := 4) rfl
        have L_5 := hNBk.cell (j := 5) rfl
        have L_6 := hNBk.cell (j := 6) rfl
        have L_7 := hNBk.cell (j := 7) rfl
        have L_8 := hNBk.cell (j := 8) rfl
        have H_hzv := Box.mk hzv
        have H_hend := Box.mk hend
        have H_hne := Box.mk hne
        clear hzv hend hne
        obtain ⟨XB, hXBe⟩ : ∃ XB, w22.heap.size = XB := ⟨_, rfl⟩
        have hBX : B + 1 ≤ XB := by have := hNBk.lt; omega
        go_upto_region 20 with fail
        refine wp_facts (fun Wx => Below w.heap.size w Wx ∧ Blk Wx B 27 [.int .i64 0, .int .i64 0, .int .i64 0, .int .i64 0, .int .i64 0, .int .i64 0, .int .i64 0, .int .i64 0, .int .i64 0, .int .u32 0, .slice none 0 0] ∧ Blk Wx XB 27 [.int .i64 l0, .int .i64 l1, .int .i64 l2, .int .i64 l3, .int .i64 l4, .int .i64 l5, .int .i64 l6, .int .i64 l7, .int .i64 l8, .int .u32 v, .slice none 0 0] ∧ OwnX Wx (B + 1) 9 1 (.slice (some ⟨ga, 0, none⟩) n0 cp) n0 (ls.map Value.string)) ⟨(by repeat' (first | with_reducible exact hb22 | with_reducible refine Below.drew ?_ | with_reducible refine below_drewN ?_ _ | with_reducible refine Below.alloc ?_ (by have := hb22.size; first | (simp; done) | (simp; omega) | omega) _ | with_reducible refine Below.setCell ?_ (by first | (simp; done) | (simp; omega) | omega) _)), hRB.alloc _, Blk.newA w22 _ _ 27 [.int .i64 l0, .int .i64 l1, .int .i64 l2, .int .i64 l3, .int .i64 l4, .int .i64 l5, .int .i64 l6, .int .i64 l7, .int .i64 l8, .int .u32 v, .slice none 0 0] hXBe rfl, hrow.alloc _⟩ ?_
        have hgX : ga < XB := by have := hNBk.lt; omega
        clear L_0 L_1 L_2 L_3 L_4 L_5 L_6 L_7 L_8 hRB hNBk hrow hXBe
        rintro Wx ⟨hbx, hRB, hXB, hrow⟩
        go_wp2_with fail
        go_loopw [14] (fun v14 wr => ∃ (k : Nat) (oa : Option Addr) (oc : Nat), 10 ≤ k ∧ k ≤ rl ∧ v14 = .int .i64 k ∧ Below w.heap.size w wr ∧ Blk wr B 27 [.int .i64 0, .int .i64 0, .int .i64 0, .int .i64 0, .int .i64 0, .int .i64 0, .int .i64 0, .int .i64 0, .int .i64 0, .int .u32 0, .slice none 0 0] ∧ Blk wr XB 27 [.int .i64 l0, .int .i64 l1, .int .i64 l2, .int .i64 l3, .int .i64 l4, .int .i64 l5, .int .i64 l6, .int .i64 l7, .int .i64 l8, .int .u32 v, .slice oa (peersM rows k).length oc] ∧ OwnX wr (XB + 1) 46 2 (.slice oa (peersM rows k).length oc) (peersM rows k).length (cel (peersM rows k)) ∧ OwnX wr (B + 1) 9 1 (.slice (some ⟨ga, 0, none⟩) n0 cp) n0 (ls.map Value.string)) (fun v14 _ => rl - (intOf v14).toNat)
        case atStart => exact ⟨10, none, 0, Nat.le_refl _, by omega, rfl, (by repeat' (first | with_reducible exact hbx | with_reducible refine Below.drew ?_ | with_reducible refine below_drewN ?_ _ | with_reducible refine Below.alloc ?_ (by have := hbx.size; first | (simp; done) | (simp; omega) | omega) _ | with_reducible refine Below.setCell ?_ (by first | (simp; done) | (simp; omega) | omega) _)), hRB, by rw [peersM_10]; exact hXB, by rw [peersM_10]; exact OwnX.nil _ _ _ _, hrow⟩
        case round =>
          clear hRB hXB hrow
          obtain ⟨k, oa, oc, hk10, hkl, rfl, hbw, hRB, hXB, hown, hrow⟩ := hrel
          by_cases hlt : k < rl
          · have hlt' : (k : Int) < (rl : Int) := by omega
            have hkn : (k : Int) < (n0 : Int) := by omega
            obtain ⟨_, eg, hga, -, hcv, -⟩ := hrow.at (by omega)
            cases eg
            obtain ⟨x, hx⟩ : ∃ x, ls[k]? = some x := ⟨_, List.getElem?_eq_getElem (by have := H_hn0.out; omega)⟩
            have cx : wr.cell? ⟨ga, k, none⟩ = some (.string x) := hcv k _ (by rw [List.getElem?_map, hx]; rfl)
            have hxz := H_hxs.out x (List.mem_of_getElem? hx)
            have hrk := H_hra.out k x hx (by omega)
            have hcall := fun W => rCut32 x W hxz
            have hr1 := splitS_len 32 x
            have hn3 := H_hn3.out k x hk10 hx (by omega)
            have hnk := H_hnk.out k x hk10 hx (by omega)
            obtain ⟨r, hr⟩ : ∃ r, splitS 32 x = r := ⟨_, rfl⟩
            rw [hr] at hrk hr1 hn3 hnk
            simp only [hr] at hcall
            obtain ⟨rn, hrn⟩ : ∃ rn, r.length = rn := ⟨_, rfl⟩
            simp only [hrn] at hcall
            rw [hrn] at hn3 hr1
            obtain ⟨hr1, hr2⟩ := hr1
            by_cases h3 : rn = 3
            · subst h3
              have hl1 : (r.map Value.string)[1]? = some (.string (r[1]?.getD ⟨#[]⟩)) := by
                rw [List.getElem?_map, List.getElem?_eq_getElem (show 1 < r.length by omega)]; rfl
              have hl2 : (r.map Value.string)[2]? = some (.string (r[2]?.getD ⟨#[]⟩)) := by
                rw [List.getElem?_map, List.getElem?_eq_getElem (show 2 < r.length by omega)]; rfl
              have hpm : peersM rows (k + 1) = peersM rows k ++ [peerM r] := peersM_on hk10 hrk
              have hpe : peerM r = (r[1]?.getD ⟨#[]⟩, numZ (r[2]?.getD ⟨#[]⟩) 4294967295) := rfl
              obtain ⟨y, hy⟩ : ∃ y, r[1]?.getD ⟨#[]⟩ = y := ⟨_, rfl⟩
              obtain ⟨z, hz⟩ : ∃ z, r[2]?.getD ⟨#[]⟩ = z := ⟨_, rfl⟩
              rw [hy] at hl1 hpe
              rw [hz] at hl2 hpe hnk
              obtain ⟨P, hP⟩ : ∃ P, peersM rows k = P := ⟨_, rfl⟩
              rw [hP] at hpm hown hXB
              have hPl : P.length ≤ 100000 := by have := peersM_len rows k; rw [hP] at this; omega
              have hnum := fun W => rNumK z W
              obtain ⟨i0, hi, hz0, hz1, hz2⟩ := info_parts info_peer
              clear hcv hn3
              have H_hr := Box.mk hr
              have H_hrn := Box.mk hrn
              have H_hl1 := Box.mk hl1
              have H_hl2 := Box.mk hl2
              have H_hpm := Box.mk hpm
              have H_hpe := Box.mk hpe
              have H_hy := Box.mk hy
              have H_hz := Box.mk hz
              have H_hP := Box.mk hP
              have H_hrk := Box.mk hrk
              have H_hx := Box.mk hx
              have H_hcall := Box.mk hcall
              have H_hnum := Box.mk hnum
              have H_hnk := Box.mk hnk
              clear hr hrn hl1 hl2 hpm hpe hy hz hP hrk hx hcall hnum hnk
              go_wp2_with fail
              with_reducible refine (H_hcall.out _).mono ?_
              rintro e w31 ⟨⟨a2, c2, rfl, hw⟩, hc31⟩
              have hb31 : Below w.heap.size w w31 := bchain (by repeat' (first | with_reducible exact hbw | with_reducible refine Below.drew ?_ | with_reducible refine below_drewN ?_ _ | with_reducible refine Below.alloc ?_ (by have := hbw.size; first | (simp; done) | (simp; omega) | omega) _ | with_reducible refine Below.setCell ?_ (by first | (simp; done) | (simp; omega) | omega) _)) hc31
              have hst31 : Below wr.heap.size wr w31 := bchain (by repeat' (first | with_reducible exact Below.refl _ _ | with_reducible refine Below.drew ?_ | with_reducible refine below_drewN ?_ _ | with_reducible refine Below.alloc ?_ (by first | (simp; done) | (simp; omega) | omega) _ | with_reducible refine Below.setCell ?_ (by first | (simp; done) | (simp; omega) | omega) _)) hc31
              replace hRB := hRB.later hst31
              replace hXB := hXB.later hst31
              replace hown := hown.later hst31
              replace hrow := hrow.later hst31
              clear hst31
              clear hc31 hbw
              obtain ⟨g2, rfl, hg2, hgl2, hcv2, -⟩ := hw.at (by omega)
              have cl := hcv2 2 _ H_hl2.out
              clear hcv2
              go_wp2_with fail
              with_reducible refine (H_hnum.out _).mono ?_
              rintro e w32 ⟨⟨q, ok, rfl, hv⟩, hc32⟩
              have hb32 : Below w.heap.size w w32 := bchain (by repeat' (first | with_reducible exact hb31 | with_reducible refine Below.drew ?_ | with_reducible refine below_drewN ?_ _ | with_reducible refine Below.alloc ?_ (by have := hb31.size; first | (simp; done) | (simp; omega) | omega) _ | with_reducible refine Below.setCell ?_ (by first | (simp; done) | (simp; omega) | omega) _)) hc32
              have hst32 : Below w31.heap.size w31 w32 := bchain (by repeat' (first | with_reducible exact Below.refl _ _ | with_reducible refine Below.drew ?_ | with_reducible refine below_drewN ?_ _ | with_reducible refine Below.alloc ?_ (by first | (simp; done) | (simp; omega) | omega) _ | with_reducible refine Below.setCell ?_ (by first | (simp; done) | (simp; omega) | omega) _)) hc32
              replace hRB := hRB.later hst32
              replace hXB := hXB.later hst32
              replace hown := hown.later hst32
              replace hrow := hrow.later hst32
              replace hw := hw.later hst32
              clear hst32
              clear hc32 hb31
              cases ok with
              | false =>
                have hr2 := H_hnk.out (by simpa using hv)
                clear hv
                have H_hr2 := Box.mk hr2
                clear hr2
                have R_0 := hRB.cell (j := 0) rfl
                have R_1 := hRB.cell (j := 1) rfl
                have R_2 := hRB.cell (j := 2) rfl
                have R_3 := hRB.cell (j := 3) rfl
                have R_4 := hRB.cell (j := 4) rfl
                have R_5 := hRB.cell (j := 5) rfl
                have R_6 := hRB.cell (j := 6) rfl
                have R_7 := hRB.cell (j := 7) rfl
                have R_8 := hRB.cell (j := 8) rfl
                have R_9 := hRB.cell (j := 9) rfl
                have R_10 := hRB.cell (j := 10) rfl
                have R_f0 := hRB.free 0
                have R_f1 := hRB.free 1
                have R_f2 := hRB.free 2
                have R_f3 := hRB.free 3
                have R_f4 := hRB.free 4
                have R_f5 := hRB.free 5
                have R_f6 := hRB.free 6
                have R_f7 := hRB.free 7
                have R_f8 := hRB.free 8
                have R_f9 := hRB.free 9
                have R_f10 := hRB.free 10
                go_wp2_with fail
                refine bodyPost_ret (v := .tuple #[.agg #[.int .i64 0, .int .i64 0, .int .i64 0, .int .i64 0, .int .i64 0, .int .i64 0, .int .i64 0, .int .i64 0, .int .i64 0, .int .u32 0, .slice none 0 0], .int .i64 12]) (by simp [results, Tryd.results28, go_sem, *]) rfl ⟨RetS.of (r := zOut 12) ⟨none, 0, rfl, .inl rfl⟩ H_hr2.out, (by repeat' (first | with_reducible exact hb32 | with_reducible refine Below.drew ?_ | with_reducible refine below_drewN ?_ _ | with_reducible refine Below.alloc ?_ (by have := hb32.size; first | (simp; done) | (simp; omega) | omega) _ | with_reducible refine Below.setCell ?_ (by first | (simp; done) | (simp; omega) | omega) _))⟩
              | true =>
                have hv2 : numR z.data.toList 4294967295 = some q := by simpa using hv
                have hql := numR_le hv2
                have hwq : IntKind.u32.wrap (q : Int) = q := by rw [IntKind.wrap_u32]; omega
                have hpq : peersM rows (k + 1) = P ++ [(y, (q : Int))] := by rw [H_hpm.out, H_hpe.out, numZ_some hv2]
                clear hv hv2 cl
                have H_hpq := Box.mk hpq
                clear hpq
                go_wp2_with fail
                refine wp_gen fun w33 hc33 => ?_
                have hb33 : Below w.heap.size w w33 := bchain (by repeat' (first | with_reducible exact hb32 | with_reducible refine Below.drew ?_ | with_reducible refine below_drewN ?_ _ | with_reducible refine Below.alloc ?_ (by have := hb32.size; first | (simp; done) | (simp; omega) | omega) _ | with_reducible refine Below.setCell ?_ (by first | (simp; done) | (simp; omega) | omega) _)) hc33
                have hst33 : Below w32.heap.size w32 w33 := bchain (by repeat' (first | with_reducible exact Below.refl _ _ | with_reducible refine Below.drew ?_ | with_reducible refine below_drewN ?_ _ | with_reducible refine Below.alloc ?_ (by first | (simp; done) | (simp; omega) | omega) _ | with_reducible refine Below.setCell ?_ (by first | (simp; done) | (simp; omega) | omega) _)) hc33
                replace hRB := hRB.later hst33
                replace hXB := hXB.later hst33
                replace hown := hown.later hst33
                replace hrow := hrow.later hst33
                replace hw := hw.later hst33
                clear hst33
                have KX := cell_on (hXB.cell (j := 10) rfl)
                obtain ⟨_, eg2, _, _, hcv3, -⟩ := hw.at (by omega)
                cases eg2
                have KW := cell_on (hcv3 1 _ H_hl1.out)
                clear hcv3
                refine wp_region_on_spec_tail [(8, [], fun _ => VNewP [.string y, .int .u32 q])] [8] [] [(8, [])] 9 (by kernel_rfl) (by kernel_rfl) rfl (by kernel_rfl) rfl (by kernel_rfl) ⟨fun _ => VNewP.last, trivial⟩ ?_
                try simp only [List.take_succ_cons, List.take_zero, List.drop_succ_cons, List.drop_zero]
                refine wpSpec_quiet 8 (by kernel_rfl) (by kernel_rfl) ?_
                simp only [List.take_succ_cons, List.take_zero, List.drop_succ_cons, List.drop_zero]
                repeat (go_big_quiet_step (fail))
                refine wpQuiet_nil ?_
                show wpSpec _ _ _ _ _ _ _ _ _ _ _
                refine wpSpec_at [] (VNewP [.string y, .int .u32 q]) rfl (by first | rfl | (simp [viewS, Act.eval]; done)) rfl (by first | rfl | (simp [Region.wanted]; done)) ?_ rfl ?_
                · intro wq hq hfq
                  clear hfq
                  unfold Oper.gives; go_simp; exact ⟨(Below.refl _ _).alloc (Nat.le_refl _) _, _, _, rfl, Blk.newA wq _ _ _ [.string y, .int .u32 q] rfl rfl⟩
                rintro x8 ⟨_, ⟨vb, vc, rfl, _⟩⟩
                simp only [Act.put, List.setIfInBounds_toArray, List.set_cons_succ, List.set_cons_zero]
                intro w34 hc34 hfq
                have f8 := hfq 8
                simp only [upd, Nat.beq, cond] at f8
                clear hfq
                have hb34 : Below w.heap.size w w34 := bchain (by repeat' (first | with_reducible exact hb33 | with_reducible refine Below.drew ?_ | with_reducible refine below_drewN ?_ _ | with_reducible refine Below.alloc ?_ (by have := hb33.size; first | (simp; done) | (simp; omega) | omega) _ | with_reducible refine Below.setCell ?_ (by first | (simp; done) | (simp; omega) | omega) _)) hc34
                have hst34 : Below w33.heap.size w33 w34 := bchain (by repeat' (first | with_reducible exact Below.refl _ _ | with_reducible refine Below.drew ?_ | with_reducible refine below_drewN ?_ _ | with_reducible refine Below.alloc ?_ (by first | (simp; done) | (simp; omega) | omega) _ | with_reducible refine Below.setCell ?_ (by first | (simp; done) | (simp; omega) | omega) _)) hc34
                replace hRB := hRB.later hst34
                replace hXB := hXB.later hst34
                replace hown := hown.later hst34
                replace hrow := hrow.later hst34
                replace hw := hw.later hst34
                clear hst34
                obtain ⟨vb', vc', e8, k8⟩ := f8
                cases e8
                go_wp2_with (at_builtin; refine stop ?_)
                refine Stop.go ?_
                refine wpList_append_x _ rfl _ _ 25 rfl (XB + 1) 46 i0 (.agg #[.string ⟨#[]⟩, .int .u32 0]) 2 24 Tryd.underlying25 hi hz0 hz1 hz2 rfl (by decide) (.slice oa P.length oc) P.length (cel P) rfl hown (some ⟨vb, 0, none⟩) 1 vc [.string y, .int .u32 q] rfl rfl k8.cellsAt2 (by intro u hu; simp at hu; rcases hu with rfl | rfl <;> rfl) (by unfold maxLen; omega) (by omega) (by have := hXB.lt; omega) ?_
                intro a' c' W1 hown2 hg hown3
                have hR2 := hRB.keptT hown hg (by decide)
                have hX2 := hXB.keptT hown hg (by decide)
                have hw2 := hrow.keptT hown hg (by decide)
                have hbW : Below w.heap.size w W1 := below_grownX hb34 hg (by have := hb34.size; omega) (fun k hk => by have := (hown.lt k hk).1; omega)
                have hceq : cel P ++ [.string y, .int .u32 (q : Int)] = cel (P ++ [(y, (q : Int))]) := by rw [cel_append]; rfl
                have hleq : P.length + 1 = (P ++ [(y, (q : Int))]).length := by simp
                rw [hceq] at hown2
                have fX := hX2.free 10
                have cX := hX2.cell (j := 10) rfl
                clear hown hRB hXB hrow hw hg hown3 k8
                have H_hceq := Box.mk hceq
                have H_hleq := Box.mk hleq
                clear hceq hleq
                go_wp2_with fail
                go_roundw
                case rel => exact ⟨k + 1, a', c', by omega, hlt, by go_num, (by repeat' (first | with_reducible exact hbW | with_reducible refine Below.drew ?_ | with_reducible refine below_drewN ?_ _ | with_reducible refine Below.alloc ?_ (by have := hbW.size; first | (simp; done) | (simp; omega) | omega) _ | with_reducible refine Below.setCell ?_ (by first | (simp; done) | (simp; omega) | omega) _)), hR2.setFar (by first | (simp; done) | (simp; omega) | omega) _, by rw [H_hpq.out, ← H_hleq.out]; exact hX2.set 10 _, by rw [H_hpq.out, ← H_hleq.out]; exact hown2.setCell (by first | (simp; done) | (simp; omega) | omega) _, hw2.setFar (by simp [Value.ownBlock]; omega) _⟩
                case measure => simp [intOf]; omega
            · have h3' : ((rn : Int) != 3) = true := bne_iff_ne.2 (by omega)
              have hr2 := hn3 h3
              clear hcv hn3 hnk
              have H_hr := Box.mk hr
              have H_hrn := Box.mk hrn
              have H_hrk := Box.mk hrk
              have H_hx := Box.mk hx
              have H_hcall := Box.mk hcall
              have H_hr2 := Box.mk hr2
              clear hr hrn hrk hx hcall hr2
              go_wp2_with fail
              with_reducible refine (H_hcall.out _).mono ?_
              rintro e w51 ⟨⟨a2, c2, rfl, hw⟩, hc51⟩
              have hb51 : Below w.heap.size w w51 := bchain (by repeat' (first | with_reducible exact hbw | with_reducible refine Below.drew ?_ | with_reducible refine below_drewN ?_ _ | with_reducible refine Below.alloc ?_ (by have := hbw.size; first | (simp; done) | (simp; omega) | omega) _ | with_reducible refine Below.setCell ?_ (by first | (simp; done) | (simp; omega) | omega) _)) hc51
              have hst51 : Below wr.heap.size wr w51 := bchain (by repeat' (first | with_reducible exact Below.refl _ _ | with_reducible refine Below.drew ?_ | with_reducible refine below_drewN ?_ _ | with_reducible refine Below.alloc ?_ (by first | (simp; done) | (simp; omega) | omega) _ | with_reducible refine Below.setCell ?_ (by first | (simp; done) | (simp; omega) | omega) _)) hc51
              replace hRB := hRB.later hst51
              clear hst51
              clear hc51 hbw
              have R_0 := hRB.cell (j := 0) rfl
              have R_1 := hRB.cell (j := 1) rfl
              have R_2 := hRB.cell (j := 2) rfl
              have R_3 := hRB.cell (j := 3) rfl
              have R_4 := hRB.cell (j := 4) rfl
              have R_5 := hRB.cell (j := 5) rfl
              have R_6 := hRB.cell (j := 6) rfl
              have R_7 := hRB.cell (j := 7) rfl
              have R_8 := hRB.cell (j := 8) rfl
              have R_9 := hRB.cell (j := 9) rfl
              have R_10 := hRB.cell (j := 10) rfl
              have R_f0 := hRB.free 0
              have R_f1 := hRB.free 1
              have R_f2 := hRB.free 2
              have R_f3 := hRB.free 3
              have R_f4 := hRB.free 4
              have R_f5 := hRB.free 5
              have R_f6 := hRB.free 6
              have R_f7 := hRB.free 7
              have R_f8 := hRB.free 8
              have R_f9 := hRB.free 9
              have R_f10 := hRB.free 10
              go_wp2_with fail
              refine bodyPost_ret (v := .tuple #[.agg #[.int .i64 0, .int .i64 0, .int .i64 0, .int .i64 0, .int .i64 0, .int .i64 0, .int .i64 0, .int .i64 0, .int .i64 0, .int .u32 0, .slice none 0 0], .int .i64 12]) (by simp [results, Tryd.results28, go_sem, *]) rfl ⟨RetS.of (r := zOut 12) ⟨none, 0, rfl, .inl rfl⟩ H_hr2.out, (by repeat' (first | with_reducible exact hb51 | with_reducible refine Below.drew ?_ | with_reducible refine below_drewN ?_ _ | with_reducible refine Below.alloc ?_ (by have := hb51.size; first | (simp; done) | (simp; omega) | omega) _ | with_reducible refine Below.setCell ?_ (by first | (simp; done) | (simp; omega) | omega) _))⟩
          · obtain rfl : k = rl := by omega
            clear hlt hkl hk10 hrow
            have hkeys := peersM_keys rows k
            have hpl := peersM_len rows k
            have hne := H_hne.out
            have hend := H_hend.out
            obtain ⟨ps, hps⟩ : ∃ ps, peersM rows k = ps := ⟨_, rfl⟩
            rw [hps] at hkeys hpl hown hXB hne
            replace hend := hend ps hps
            have hS : SIn wr (v : Int) ps oa := ⟨by omega, by omega, hown.cellsAt, hkeys, by omega⟩
            have p6 : ∀ ad, oa = some ad → ad.block ≠ B := fun ad e => by have := (hown.addr ad e).1; omega
            obtain ⟨E, hE2⟩ : ∃ E, chkS (⟨l0, l1, l2, l3, l4, l5, l6, l7, l8⟩ : Lim) (v : Int) ps = E := ⟨_, rfl⟩
            rw [hE2] at hne
            have hchk := fun W (h : SIn W (v : Int) ps oa) => hE2 ▸ rCheck_any l0 l1 l2 l3 l4 l5 l6 l7 l8 (v : Int) ps oa oc W h.cells h.s0 h.s4 h.keys h.ml
            clear hown
            by_cases h0 : E = 0
            · subst h0
              have hcv := CV.of hE2
              have htx := fun W (h : SIn W (v : Int) ps oa) => rtext_any l0 l1 l2 l3 l4 l5 l6 l7 l8 (v : Int) ps oa oc W h hcv
              obtain ⟨T, hT⟩ : ∃ T : ByteArray, bsB (textL (⟨l0, l1, l2, l3, l4, l5, l6, l7, l8⟩ : Lim) (v : Int) ps) = T := ⟨_, rfl⟩
              simp only [hT] at htx
              cases hcmp : (T.toList == b.toList) with
              | true =>
                have hTb : T = b := seqB_iff.1 hcmp
                have ht : textL (⟨l0, l1, l2, l3, l4, l5, l6, l7, l8⟩ : Lim) (v : Int) ps = b.data.toList := by rw [← hTb, ← hT, bsB_list]
                have hr2 := hend hcv ht
                have H_hps := Box.mk hps
                have H_hT := Box.mk hT
                have H_hTb := Box.mk hTb
                have H_ht := Box.mk ht
                have H_hr2 := Box.mk hr2
                have H_htx := Box.mk htx
                have H_hchk := Box.mk hchk
                have H_hE2 := Box.mk hE2
                have H_hcv := Box.mk hcv
                have H_hne := Box.mk hne
                have H_hend := Box.mk hend
                clear hps hT hTb ht hr2 htx hchk hE2 hcv hne hend
                have X_0 := hXB.cell (j := 0) rfl
                have X_1 := hXB.cell (j := 1) rfl
                have X_2 := hXB.cell (j := 2) rfl
                have X_3 := hXB.cell (j := 3) rfl
                have X_4 := hXB.cell (j := 4) rfl
                have X_5 := hXB.cell (j := 5) rfl
                have X_6 := hXB.cell (j := 6) rfl
                have X_7 := hXB.cell (j := 7) rfl
                have X_8 := hXB.cell (j := 8) rfl
                have X_9 := hXB.cell (j := 9) rfl
                have X_10 := hXB.cell (j := 10) rfl
                go_wp2_with fail
                with_reducible refine (H_hchk.out _ hS).mono ?_
                rintro e w61 ⟨rfl, hc61⟩
                have hb61 : Below w.heap.size w w61 := bchain (by repeat' (first | with_reducible exact hbw | with_reducible refine Below.drew ?_ | with_reducible refine below_drewN ?_ _ | with_reducible refine Below.alloc ?_ (by have := hbw.size; first | (simp; done) | (simp; omega) | omega) _ | with_reducible refine Below.setCell ?_ (by first | (simp; done) | (simp; omega) | omega) _)) hc61
                have hst61 : Below wr.heap.size wr w61 := bchain (by repeat' (first | with_reducible exact Below.refl _ _ | with_reducible refine Below.drew ?_ | with_reducible refine below_drewN ?_ _ | with_reducible refine Below.alloc ?_ (by first | (simp; done) | (simp; omega) | omega) _ | with_reducible refine Below.setCell ?_ (by first | (simp; done) | (simp; omega) | omega) _)) hc61
                replace hRB := hRB.later hst61
                replace hXB := hXB.later hst61
                replace hS := hS.later hst61
                clear hst61
                clear hc61 hbw
                clear X_0 X_1 X_2 X_3 X_4 X_5 X_6 X_7 X_8 X_9 X_10
                have X_0 := hXB.cell (j := 0) rfl
                have X_1 := hXB.cell (j := 1) rfl
                have X_2 := hXB.cell (j := 2) rfl
                have X_3 := hXB.cell (j := 3) rfl
                have X_4 := hXB.cell (j := 4) rfl
                have X_5 := hXB.cell (j := 5) rfl
                have X_6 := hXB.cell (j := 6) rfl
                have X_7 := hXB.cell (j := 7) rfl
                have X_8 := hXB.cell (j := 8) rfl
                have X_9 := hXB.cell (j := 9) rfl
                have X_10 := hXB.cell (j := 10) rfl
                go_wp2_with fail
                with_reducible refine (H_htx.out _ hS).mono ?_
                rintro e w62 ⟨rfl, hc62⟩
                have hb62 : Below w.heap.size w w62 := bchain (by repeat' (first | with_reducible exact hb61 | with_reducible refine Below.drew ?_ | with_reducible refine below_drewN ?_ _ | with_reducible refine Below.alloc ?_ (by have := hb61.size; first | (simp; done) | (simp; omega) | omega) _ | with_reducible refine Below.setCell ?_ (by first | (simp; done) | (simp; omega) | omega) _)) hc62
                have hst62 : Below w61.heap.size w61 w62 := bchain (by repeat' (first | with_reducible exact Below.refl _ _ | with_reducible refine Below.drew ?_ | with_reducible refine below_drewN ?_ _ | with_reducible refine Below.alloc ?_ (by first | (simp; done) | (simp; omega) | omega) _ | with_reducible refine Below.setCell ?_ (by first | (simp; done) | (simp; omega) | omega) _)) hc62
                replace hRB := hRB.later hst62
                replace hXB := hXB.later hst62
                replace hS := hS.later hst62
                clear hst62
                clear hc62 hb61
                clear X_0 X_1 X_2 X_3 X_4 X_5 X_6 X_7 X_8 X_9 X_10
                have X_0 := hXB.cell (j := 0) rfl
                have X_1 := hXB.cell (j := 1) rfl
                have X_2 := hXB.cell (j := 2) rfl
                have X_3 := hXB.cell (j := 3) rfl
                have X_4 := hXB.cell (j := 4) rfl
                have X_5 := hXB.cell (j := 5) rfl
                have X_6 := hXB.cell (j := 6) rfl
                have X_7 := hXB.cell (j := 7) rfl
                have X_8 := hXB.cell (j := 8) rfl
                have X_9 := hXB.cell (j := 9) rfl
                have X_10 := hXB.cell (j := 10) rfl
                have R_0 := hRB.cell (j := 0) rfl
                have R_1 := hRB.cell (j := 1) rfl
                have R_2 := hRB.cell (j := 2) rfl
                have R_3 := hRB.cell (j := 3) rfl
                have R_4 := hRB.cell (j := 4) rfl
                have R_5 := hRB.cell (j := 5) rfl
                have R_6 := hRB.cell (j := 6) rfl
                have R_7 := hRB.cell (j := 7) rfl
                have R_8 := hRB.cell (j := 8) rfl
                have R_9 := hRB.cell (j := 9) rfl
                have R_10 := hRB.cell (j := 10) rfl
                have R_f0 := hRB.free 0
                have R_f1 := hRB.free 1
                have R_f2 := hRB.free 2
                have R_f3 := hRB.free 3
                have R_f4 := hRB.free 4
                have R_f5 := hRB.free 5
                have R_f6 := hRB.free 6
                have R_f7 := hRB.free 7
                have R_f8 := hRB.free 8
                have R_f9 := hRB.free 9
                have R_f10 := hRB.free 10
                go_wp2_with fail
                refine bodyPost_ret (v := .tuple #[.agg #[.int .i64 l0, .int .i64 l1, .int .i64 l2, .int .i64 l3, .int .i64 l4, .int .i64 l5, .int .i64 l6, .int .i64 l7, .int .i64 l8, .int .u32 (v : Int), .slice oa ps.length oc], .int .i64 0]) (by simp [results, Tryd.results28, go_sem, *]) rfl ⟨RetS.of (r := ⟨(⟨l0, l1, l2, l3, l4, l5, l6, l7, l8⟩ : Lim), (v : Int), ps, 0⟩) ⟨oa, oc, rfl, (by repeat' (first | with_reducible exact hS.cells | with_reducible refine CellsAt.setFarG ?_ p6 _ | with_reducible refine CellsAt.drewN ?_ _))⟩ H_hr2.out, (by repeat' (first | with_reducible exact hb62 | with_reducible refine Below.drew ?_ | with_reducible refine below_drewN ?_ _ | with_reducible refine Below.alloc ?_ (by have := hb62.size; first | (simp; done) | (simp; omega) | omega) _ | with_reducible refine Below.setCell ?_ (by first | (simp; done) | (simp; omega) | omega) _))⟩
              | false =>
                have hTb : T ≠ b := fun e => by rw [e, show (b.toList == b.toList) = true from seqB_self b] at hcmp; cases hcmp
                have hr2 := hne (fun h => hTb (by rw [← hT, h.2]; exact bsB_of b))
                have H_hps := Box.mk hps
                have H_hT := Box.mk hT
                have H_hTb := Box.mk hTb
                have H_hr2 := Box.mk hr2
                have H_htx := Box.mk htx
                have H_hchk := Box.mk hchk
                have H_hE2 := Box.mk hE2
                have H_hcv := Box.mk hcv
                have H_hne := Box.mk hne
                have H_hend := Box.mk hend
                clear hps hT hTb hr2 htx hchk hE2 hcv hne hend
                have X_0 := hXB.cell (j := 0) rfl
                have X_1 := hXB.cell (j := 1) rfl
                have X_2 := hXB.cell (j := 2) rfl
                have X_3 := hXB.cell (j := 3) rfl
                have X_4 := hXB.cell (j := 4) rfl
                have X_5 := hXB.cell (j := 5) rfl
                have X_6 := hXB.cell (j := 6) rfl
                have X_7 := hXB.cell (j := 7) rfl
                have X_8 := hXB.cell (j := 8) rfl
                have X_9 := hXB.cell (j := 9) rfl
                have X_10 := hXB.cell (j := 10) rfl
                go_wp2_with fail
                with_reducible refine (H_hchk.out _ hS).mono ?_
                rintro e w61 ⟨rfl, hc61⟩
                have hb61 : Below w.heap.size w w61 := bchain (by repeat' (first | with_reducible exact hbw | with_reducible refine Below.drew ?_ | with_reducible refine below_drewN ?_ _ | with_reducible refine Below.alloc ?_ (by have := hbw.size; first | (simp; done) | (simp; omega) | omega) _ | with_reducible refine Below.setCell ?_ (by first | (simp; done) | (simp; omega) | omega) _)) hc61
                have hst61 : Below wr.heap.size wr w61 := bchain (by repeat' (first | with_reducible exact Below.refl _ _ | with_reducible refine Below.drew ?_ | with_reducible refine below_drewN ?_ _ | with_reducible refine Below.alloc ?_ (by first | (simp; done) | (simp; omega) | omega) _ | with_reducible refine Below.setCell ?_ (by first | (simp; done) | (simp; omega) | omega) _)) hc61
                replace hRB := hRB.later hst61
                replace hXB := hXB.later hst61
                replace hS := hS.later hst61
                clear hst61
                clear hc61 hbw
                clear X_0 X_1 X_2 X_3 X_4 X_5 X_6 X_7 X_8 X_9 X_10
                have X_0 := hXB.cell (j := 0) rfl
                have X_1 := hXB.cell (j := 1) rfl
                have X_2 := hXB.cell (j := 2) rfl
                have X_3 := hXB.cell (j := 3) rfl
                have X_4 := hXB.cell (j := 4) rfl
                have X_5 := hXB.cell (j := 5) rfl
                have X_6 := hXB.cell (j := 6) rfl
                have X_7 := hXB.cell (j := 7) rfl
                have X_8 := hXB.cell (j := 8) rfl
                have X_9 := hXB.cell (j := 9) rfl
                have X_10 := hXB.cell (j := 10) rfl
                go_wp2_with fail
                with_reducible refine (H_htx.out _ hS).mono ?_
                rintro e w62 ⟨rfl, hc62⟩
                have hb62 : Below w.heap.size w w62 := bchain (by repeat' (first | with_reducible exact hb61 | with_reducible refine Below.drew ?_ | with_reducible refine below_drewN ?_ _ | with_reducible refine Below.alloc ?_ (by have := hb61.size; first | (simp; done) | (simp; omega) | omega) _ | with_reducible refine Below.setCell ?_ (by first | (simp; done) | (simp; omega) | omega) _)) hc62
                have hst62 : Below w61.heap.size w61 w62 := bchain (by repeat' (first | with_reducible exact Below.refl _ _ | with_reducible refine Below.drew ?_ | with_reducible refine below_drewN ?_ _ | with_reducible refine Below.alloc ?_ (by first | (simp; done) | (simp; omega) | omega) _ | with_reducible refine Below.setCell ?_ (by first | (simp; done) | (simp; omega) | omega) _)) hc62
                replace hRB := hRB.later hst62
                replace hXB := hXB.later hst62
                replace hS := hS.later hst62
                clear hst62
                clear hc62 hb61
                clear X_0 X_1 X_2 X_3 X_4 X_5 X_6 X_7 X_8 X_9 X_10
                have R_0 := hRB.cell (j := 0) rfl
                have R_1 := hRB.cell (j := 1) rfl
                have R_2 := hRB.cell (j := 2) rfl
                have R_3 := hRB.cell (j := 3) rfl
                have R_4 := hRB.cell (j := 4) rfl
                have R_5 := hRB.cell (j := 5) rfl
                have R_6 := hRB.cell (j := 6) rfl
                have R_7 := hRB.cell (j := 7) rfl
                have R_8 := hRB.cell (j := 8) rfl
                have R_9 := hRB.cell (j := 9) rfl
                have R_10 := hRB.cell (j := 10) rfl
                have R_f0 := hRB.free 0
                have R_f1 := hRB.free 1
                have R_f2 := hRB.free 2
                have R_f3 := hRB.free 3
                have R_f4 := hRB.free 4
                have R_f5 := hRB.free 5
                have R_f6 := hRB.free 6
                have R_f7 := hRB.free 7
                have R_f8 := hRB.free 8
                have R_f9 := hRB.free 9
                have R_f10 := hRB.free 10
                go_wp2_with fail
                refine bodyPost_ret (v := .tuple #[.agg #[.int .i64 0, .int .i64 0, .int .i64 0, .int .i64 0, .int .i64 0, .int .i64 0, .int .i64 0, .int .i64 0, .int .i64 0, .int .u32 0, .slice none 0 0], .int .i64 12]) (by simp [results, Tryd.results28, go_sem, *]) rfl ⟨RetS.of (r := zOut 12) ⟨none, 0, rfl, .inl rfl⟩ H_hr2.out, (by repeat' (first | with_reducible exact hb62 | with_reducible refine Below.drew ?_ | with_reducible refine below_drewN ?_ _ | with_reducible refine Below.alloc ?_ (by have := hb62.size; first | (simp; done) | (simp; omega) | omega) _ | with_reducible refine Below.setCell ?_ (by first | (simp; done) | (simp; omega) | omega) _))⟩
            · have b1 : (E != 0) = true := bne_iff_ne.2 h0
              have hr2 := hne (fun h => h0 h.1)
              have H_hps := Box.mk hps
              have H_hr2 := Box.mk hr2
              have H_hchk := Box.mk hchk
              have H_hE2 := Box.mk hE2
              have H_hne := Box.mk hne
              have H_hend := Box.mk hend
              clear hps hr2 hchk hE2 hne hend
              have X_0 := hXB.cell (j := 0) rfl
              have X_1 := hXB.cell (j := 1) rfl
              have X_2 := hXB.cell (j := 2) rfl
              have X_3 := hXB.cell (j := 3) rfl
              have X_4 := hXB.cell (j := 4) rfl
              have X_5 := hXB.cell (j := 5) rfl
              have X_6 := hXB.cell (j := 6) rfl
              have X_7 := hXB.cell (j := 7) rfl
              have X_8 := hXB.cell (j := 8) rfl
              have X_9 := hXB.cell (j := 9) rfl
              have X_10 := hXB.cell (j := 10) rfl
              go_wp2_with fail
              with_reducible refine (H_hchk.out _ hS).mono ?_
              rintro e w61 ⟨rfl, hc61⟩
              have hb61 : Below w.heap.size w w61 := bchain (by repeat' (first | with_reducible exact hbw | with_reducible refine Below.drew ?_ | with_reducible refine below_drewN ?_ _ | with_reducible refine Below.alloc ?_ (by have := hbw.size; first | (simp; done) | (simp; omega) | omega) _ | with_reducible refine Below.setCell ?_ (by first | (simp; done) | (simp; omega) | omega) _)) hc61
              have hst61 : Below wr.heap.size wr w61 := bchain (by repeat' (first | with_reducible exact Below.refl _ _ | with_reducible refine Below.drew ?_ | with_reducible refine below_drewN ?_ _ | with_reducible refine Below.alloc ?_ (by first | (simp; done) | (simp; omega) | omega) _ | with_reducible refine Below.setCell ?_ (by first | (simp; done) | (simp; omega) | omega) _)) hc61
              replace hRB := hRB.later hst61
              replace hXB := hXB.later hst61
              replace hS := hS.later hst61
              clear hst61
              clear hc61 hbw
              clear X_0 X_1 X_2 X_3 X_4 X_5 X_6 X_7 X_8 X_9 X_10
              have R_0 := hRB.cell (j := 0) rfl
              have R_1 := hRB.cell (j := 1) rfl
              have R_2 := hRB.cell (j := 2) rfl
              have R_3 := hRB.cell (j := 3) rfl
              have R_4 := hRB.cell (j := 4) rfl
              have R_5 := hRB.cell (j := 5) rfl
              have R_6 := hRB.cell (j := 6) rfl
              have R_7 := hRB.cell (j := 7) rfl
              have R_8 := hRB.cell (j := 8) rfl
              have R_9 := hRB.cell (j := 9) rfl
              have R_10 := hRB.cell (j := 10) rfl
              have R_f0 := hRB.free 0
              have R_f1 := hRB.free 1
              have R_f2 := hRB.free 2
              have R_f3 := hRB.free 3
              have R_f4 := hRB.free 4
              have R_f5 := hRB.free 5
              have R_f6 := hRB.free 6
              have R_f7 := hRB.free 7
              have R_f8 := hRB.free 8
              have R_f9 := hRB.free 9
              have R_f10 := hRB.free 10
              go_wp2_with fail
              refine bodyPost_ret (v := .tuple #[.agg #[.int .i64 0, .int .i64 0, .int .i64 0, .int .i64 0, .int .i64 0, .int .i64 0, .int .i64 0, .int .i64 0, .int .i64 0, .int .u32 0, .slice none 0 0], .int .i64 12]) (by simp [results, Tryd.results28, go_sem, *]) rfl ⟨RetS.of (r := zOut 12) ⟨none, 0, rfl, .inl rfl⟩ H_hr2.out, (by repeat' (first | with_reducible exact hb61 | with_reducible refine Below.drew ?_ | with_reducible refine below_drewN ?_ _ | with_reducible refine Below.alloc ?_ (by have := hb61.size; first | (simp; done) | (simp; omega) | omega) _ | with_reducible refine Below.setCell ?_ (by first | (simp; done) | (simp; omega) | omega) _))⟩
end Go.Proofs.YthdldmkeoglflaaDoor
