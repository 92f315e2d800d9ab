/- DigestOrder: Cmp is a total order. -/
import Derived.Test.YtlilodfddojlhaaDoorDigAlive
namespace Go.Proofs.YtlilodfddojlhaaDoor
set_option linter.unusedSimpArgs false
set_option linter.unusedVariables false
set_option linter.unnecessarySimpa false
open Go.RowKit

theorem cmpZ_range : ∀ xs ys : List Int, cmpZ xs ys = -1 ∨ cmpZ xs ys = 0 ∨ cmpZ xs ys = 1
  | [], [] => by simp [cmpZ]
  | [], _ :: _ => by simp [cmpZ]
  | _ :: _, [] => by simp [cmpZ]
  | a :: xs, b :: ys => by
    unfold cmpZ
    split
    · simp
    · split
      · simp
      · exact cmpZ_range xs ys
theorem cmpZ_anti : ∀ xs ys : List Int, cmpZ ys xs = -cmpZ xs ys
  | [], [] => rfl
  | [], _ :: _ => rfl
  | _ :: _, [] => rfl
  | a :: xs, b :: ys => by
    unfold cmpZ
    have := cmpZ_anti xs ys
    split <;> split <;> (try split) <;> (first | omega | rfl | exact this)
theorem cmpZ_zero : ∀ xs ys : List Int, (cmpZ xs ys == 0) = (xs == ys)
  | [], [] => rfl
  | [], _ :: _ => rfl
  | _ :: _, [] => rfl
  | a :: xs, b :: ys => by
    have ih := cmpZ_zero xs ys
    unfold cmpZ
    rw [List.cons_beq_cons]
    by_cases h1 : a < b
    · have : (a == b) = false := by simp; omega
      rw [if_pos h1, this]; rfl
    · by_cases h2 : b < a
      · have : (a == b) = false := by simp; omega
        rw [if_neg h1, if_pos h2, this]; rfl
      · have : a = b := by omega
        subst this
        rw [if_neg h1, if_neg h2, ih]; simp
theorem cmpZ_trans : ∀ xs ys zs : List Int, cmpZ xs ys ≤ 0 → cmpZ ys zs ≤ 0 → cmpZ xs zs ≤ 0
  | [], _, [], _, _ => by simp [cmpZ]
  | [], _, _ :: _, _, _ => by simp [cmpZ]
  | _ :: _, [], _, h, _ => by simp [cmpZ] at h
  | _ :: _, _ :: _, [], _, h => by simp [cmpZ] at h
  | a :: xs, b :: ys, c :: zs, h1, h2 => by
    have ih := cmpZ_trans xs ys zs
    unfold cmpZ at h1 h2 ⊢
    by_cases e1 : a < b
    · by_cases e2 : b < c
      · rw [if_pos (by omega)]; omega
      · rw [if_neg e2] at h2
        by_cases e3 : c < b
        · rw [if_pos e3] at h2; omega
        · rw [if_pos (by omega)]; omega
    · rw [if_neg e1] at h1
      by_cases e1' : b < a
      · rw [if_pos e1'] at h1; omega
      · rw [if_neg e1'] at h1
        obtain rfl : a = b := by omega
        by_cases e2 : a < c
        · rw [if_pos e2]; omega
        · rw [if_neg e2] at h2 ⊢
          by_cases e3 : c < a
          · rw [if_pos e3] at h2; omega
          · rw [if_neg e3] at h2 ⊢
            exact ih h1 h2
theorem cmpZ_less : ∀ (xs ys : List Int) (k : Nat), k < xs.length → k < ys.length → xs.take k = ys.take k → xs[k]?.getD 0 < ys[k]?.getD 0 → cmpZ xs ys = -1
  | [], _, k, h, _, _, _ => by simp at h
  | _ :: _, [], k, _, h, _, _ => by simp at h
  | a :: xs, b :: ys, 0, _, _, _, h => by
    simp at h
    unfold cmpZ
    rw [if_pos h]
  | a :: xs, b :: ys, k + 1, h1, h2, h3, h4 => by
    simp at h3
    obtain ⟨rfl, h3⟩ := h3
    unfold cmpZ
    rw [if_neg (by omega), if_neg (by omega)]
    exact cmpZ_less xs ys k (by simpa using h1) (by simpa using h2) h3 (by simpa using h4)
theorem load_id {w : World} {B : Nat} {t : TypeId} {xs : List Int} (h : Blk w B t (xs.map (Value.int .u8))) (hl : xs.length = 32) : (Instr.loadAt 33 (.pointer (some ⟨B, 0, none⟩))).run Tryd.prog w = .ok (.agg (xs.map (Value.int .u8)).toArray) w :=
  run_loadAt_mid w B 0 33 (xs.map (Value.int .u8)) _ h.rangeAt Tryd.underlying33 rfl (by rw [List.length_map, hl]; exact info32)

set_option maxRecDepth 100000 in
set_option maxHeartbeats 4000000 in
theorem order_walk (xs ys zs : List Int) (k : Int) (w : World) (hx : IdIn xs) (hy : IdIn ys) (hz : IdIn zs) (hk : (Lit.int .i64 k).wf = true) (hK : CellsAt w (some ⟨0, 0, none⟩) (kcs.map (Value.int .u32)) ∧ 0 < w.heap.size) :
    Calls Tryd.prog 5 #[.agg (xs.map (Value.int .u8)).toArray, .agg (ys.map (Value.int .u8)).toArray, .agg (zs.map (Value.int .u8)).toArray, .int .i64 k] w fun e w' =>
      e = .returned (.bool true) ∧ Below w.heap.size w w' := by
  obtain ⟨hK, hw0⟩ := hK
  obtain ⟨hx, hx8⟩ := hx
  obtain ⟨hy, hy8⟩ := hy
  obtain ⟨hz, hz8⟩ := hz
  have hk2 := bd_i64 hk
  obtain ⟨hk2a, hk2b⟩ := hk2
  obtain ⟨us, hus⟩ : ∃ us, us = xs.map (Value.int .u8) := ⟨_, rfl⟩
  obtain ⟨vs, hvs⟩ : ∃ vs, vs = ys.map (Value.int .u8) := ⟨_, rfl⟩
  obtain ⟨ts, hts⟩ : ∃ ts, ts = zs.map (Value.int .u8) := ⟨_, rfl⟩
  rw [← hus, ← hvs, ← hts]
  have hwf : ∀ W, Below w.heap.size w W → 0 < W.heap.size := fun W h => Nat.lt_of_lt_of_le hw0 h.size
  obtain ⟨X, hX⟩ : ∃ X, X = cmpZ xs ys := ⟨_, rfl⟩
  obtain ⟨Z, hZ⟩ : ∃ Z, Z = cmpZ ys zs := ⟨_, rfl⟩
  obtain ⟨W, hW⟩ : ∃ W, W = cmpZ xs zs := ⟨_, rfl⟩
  have hc1 := fun w => cmp_any xs ys w hx hy hx8 hy8
  have hc2 := fun w => cmp_any ys xs w hy hx hy8 hx8
  have hc3 := fun w => cmp_any ys zs w hy hz hy8 hz8
  have hc4 := fun w => cmp_any xs zs w hx hz hx8 hz8
  have heq := fun w => eq_ids xs ys hx hy w
  have hxr := cmpZ_range xs ys
  have hzr := cmpZ_range ys zs
  have hwr := cmpZ_range xs zs
  have htr := cmpZ_trans xs ys zs
  have hz0 := cmpZ_zero xs ys
  rw [cmpZ_anti xs ys] at hc2
  rw [← hX] at hxr htr hz0
  rw [← hZ] at hzr htr
  rw [← hW] at hwr htr
  simp only [← hX, ← hZ, ← hW, ← hus, ← hvs, ← hts] at hc1 hc2 hc3 hc4 heq
  have HX := hid hX
  have HEQ := hid heq
  have H1 := hid hc1
  have H2 := hid hc2
  have H3 := hid hc3
  have H4 := hid hc4
  have HZ0 := hid hz0
  have HT := hid htr
  have Hr := hid (And.intro hxr (And.intro hzr hwr))
  have H_hx := hid hx
  have H_hy := hid hy
  have H_hz := hid hz
  have H_hus := hid hus
  have H_hvs := hid hvs
  have H_hts := hid hts
  clear hx hy hz hus hvs hts
  clear hX hZ hW heq hc1 hc2 hc3 hc4 hz0 htr hxr hzr hwr hk
  go_enter Tryd.func5, Tryd.ntmps5
  have hb0 := Below.refl w.heap.size w
  go_wp2_with fail
  refine wp_gen fun w1 hc1 => ?_
  have hb1 : Below w.heap.size w w1 := bchain (by repeat' (first | with_reducible exact hb0 | with_reducible refine Below.drew ?_ | with_reducible refine below_drewN ?_ _ | with_reducible refine Below.alloc ?_ (by have := hb0.size; first | (simp; done) | (simp; omega) | omega) _ | with_reducible refine Below.setCell ?_ (by first | (simp; done) | (simp; omega) | omega) _)) hc1
  have hbA : Blk w1 w.heap.size 33 us := Blk.later (((Blk.newA w _ _ _ us rfl rfl).alloc _).alloc _) hc1
  have hbB : Blk w1 (w.heap.size + 1) 33 vs := Blk.later ((Blk.newA _ _ _ _ vs (by simp) rfl).alloc _) hc1
  have hbC : Blk w1 (w.heap.size + 1 + 1) 33 ts := Blk.later (Blk.newA _ _ _ _ ts (by simp) rfl) hc1
  have hiu : (Tryd.prog.info? 33).map (·.size) = some us.length := by rw [H_hus.out, List.length_map, H_hx.out]; exact info32
  have hiv : (Tryd.prog.info? 33).map (·.size) = some vs.length := by rw [H_hvs.out, List.length_map, H_hy.out]; exact info32
  have hit : (Tryd.prog.info? 33).map (·.size) = some ts.length := by rw [H_hts.out, List.length_map, H_hz.out]; exact info32
  have H_hiu := hid hiu
  have H_hiv := hid hiv
  have H_hit := hid hit
  clear hiu hiv hit
  clear hc1
  refine wp_region_on (by kernel_rfl) (by kernel_rfl) ?_
  repeat (first | (refine wpQuiet_load_blk (by first | rfl | (simp [Region.wanted]; done)) 33 _ rfl (w.heap.size) (by rfl) 33 us _ hbA Tryd.underlying33 rfl H_hiu.out ?_; simp only [Act.put, List.setIfInBounds_toArray, List.set_cons_succ, List.set_cons_zero]) | (refine wpQuiet_load_blk (by first | rfl | (simp [Region.wanted]; done)) 33 _ rfl (w.heap.size + 1) (by rfl) 33 vs _ hbB Tryd.underlying33 rfl H_hiv.out ?_; simp only [Act.put, List.setIfInBounds_toArray, List.set_cons_succ, List.set_cons_zero]) | (refine wpQuiet_load_blk (by first | rfl | (simp [Region.wanted]; done)) 33 _ rfl (w.heap.size + 1 + 1) (by rfl) 33 ts _ hbC Tryd.underlying33 rfl H_hit.out ?_; simp only [Act.put, List.setIfInBounds_toArray, List.set_cons_succ, List.set_cons_zero]) | (go_big_quiet_step ((first | (go_at_call 23; with_reducible exact calls_on (H1.out _)) | (go_at_call 23; with_reducible exact calls_on (H2.out _)) | (go_at_call 23; with_reducible exact calls_on (H3.out _)) | (go_at_call 23; with_reducible exact calls_on (H4.out _))))))
  refine wpQuiet_nil ?_
  intro w2 hc2
  have hb2 : Below w.heap.size w w2 := bchain (by repeat' (first | with_reducible exact hb1 | with_reducible refine Below.drew ?_ | with_reducible refine below_drewN ?_ _ | with_reducible refine Below.alloc ?_ (by have := hb1.size; first | (simp; done) | (simp; omega) | omega) _ | with_reducible refine Below.setCell ?_ (by first | (simp; done) | (simp; omega) | omega) _)) hc2
  have hst2 : Below w1.heap.size w1 w2 := bchain (by repeat' (first | with_reducible exact Below.refl _ _ | with_reducible refine Below.drew ?_ | with_reducible refine below_drewN ?_ _ | with_reducible refine Below.alloc ?_ (by first | (simp; done) | (simp; omega) | omega) _ | with_reducible refine Below.setCell ?_ (by first | (simp; done) | (simp; omega) | omega) _)) hc2
  replace hbA := hbA.later hst2
  replace hbB := hbB.later hst2
  replace hbC := hbC.later hst2
  clear hst2
  have hsp : 0 < X ∨ (X ≤ 0 ∧ 0 < Z) ∨ (X ≤ 0 ∧ Z ≤ 0 ∧ W ≤ 0) := by
    have h1 := HT.out
    by_cases hx : 0 < X
    · exact .inl hx
    · by_cases hz : 0 < Z
      · exact .inr (.inl ⟨by omega, hz⟩)
      · exact .inr (.inr ⟨by omega, by omega, h1 (by omega) (by omega)⟩)
  have hX1 : -1 ≤ X ∧ X ≤ 1 := by have := Hr.out.1; omega
  obtain ⟨hX1a, hX1b⟩ := hX1
  obtain ⟨bq, hbq⟩ : ∃ bq, bq = (xs == ys) := ⟨_, rfl⟩
  have heq := HEQ.out
  have hz0 := HZ0.out
  rw [← hbq] at hz0
  simp only [← hbq] at heq
  have Hbq := hid hbq
  have Hz0 := hid hz0
  have Heq := hid heq
  clear hbq heq hz0
  have case4 : k < 0 ∨ 31 < k ∨ ∃ j : Nat, k = j ∧ j < 32 := by
    by_cases h : k < 0
    · exact .inl h
    · by_cases h2 : 31 < k
      · exact .inr (.inl h2)
      · exact .inr (.inr ⟨k.toNat, by omega, by omega⟩)
  rcases case4 with hk0 | hk0 | ⟨j, rfl, hj⟩
  · rcases hsp with h1 | ⟨h1, h2⟩ | ⟨h1, h2, h3⟩
    all_goals
      have heq := Heq.out
      have hz0 := Hz0.out
      go_wp2_with (first | (refine wpList_load_blkG (by rfl) 33 _ rfl w.heap.size (by rfl) 33 us _ hbA Tryd.underlying33 rfl H_hiu.out ?_) | (refine wpList_load_blkG (by rfl) 33 _ rfl (w.heap.size + 1) (by rfl) 33 vs _ hbB Tryd.underlying33 rfl H_hiv.out ?_))
      with_reducible refine (alive_any _ (hK.later hb2) (hwf _ hb2)).mono ?_
      rintro e w3 ⟨rfl, hc3⟩
      go_wp2_with fail
      go_ret
      exact ⟨rfl, bchain hb2 hc3⟩
  · rcases hsp with h1 | ⟨h1, h2⟩ | ⟨h1, h2, h3⟩
    all_goals
      have heq := Heq.out
      have hz0 := Hz0.out
      go_wp2_with (first | (refine wpList_load_blkG (by rfl) 33 _ rfl w.heap.size (by rfl) 33 us _ hbA Tryd.underlying33 rfl H_hiu.out ?_) | (refine wpList_load_blkG (by rfl) 33 _ rfl (w.heap.size + 1) (by rfl) 33 vs _ hbB Tryd.underlying33 rfl H_hiv.out ?_))
      with_reducible refine (alive_any _ (hK.later hb2) (hwf _ hb2)).mono ?_
      rintro e w3 ⟨rfl, hc3⟩
      go_wp2_with fail
      go_ret
      exact ⟨rfl, bchain hb2 hc3⟩
  · have hjI : (j : Int) < 32 := by omega
    have cA := (H_hus.out ▸ hbA).cellI (j := j) (by have := H_hx.out; omega)
    obtain ⟨x, hxe⟩ : ∃ x, x = xs[j]?.getD 0 := ⟨_, rfl⟩
    have hxb := hx8.at j
    rw [← hxe] at cA hxb
    obtain ⟨hxa, hxb⟩ := hxb
    have Hxe := hid hxe
    clear hxe
    by_cases h255 : x = 255
    · subst h255
      rcases hsp with h1 | ⟨h1, h2⟩ | ⟨h1, h2, h3⟩
      all_goals
        have heq := Heq.out
        have hz0 := Hz0.out
        go_wp2_with (first | (refine wpList_load_blkG (by rfl) 33 _ rfl w.heap.size (by rfl) 33 us _ hbA Tryd.underlying33 rfl H_hiu.out ?_) | (refine wpList_load_blkG (by rfl) 33 _ rfl (w.heap.size + 1) (by rfl) 33 vs _ hbB Tryd.underlying33 rfl H_hiv.out ?_))
        with_reducible refine (alive_any _ (hK.later hb2) (hwf _ hb2)).mono ?_
        rintro e w3 ⟨rfl, hc3⟩
        go_wp2_with fail
        go_ret
        exact ⟨rfl, bchain hb2 hc3⟩
    · have hxl : x < 255 := by omega
      have hne := hid (show ¬ (x == 255) = true by simpa using h255)
      have hne2 : (x == 255) = false := by simpa using h255
      clear h255
      have hMz := fun w3 : World => Blk.new w3 w3.heap.size (List.replicate 32 (Value.int .u8 0)) 33 rfl
      have hul : us.length = (List.replicate 32 (Value.int .u8 0)).length := by rw [H_hus.out, List.length_map, H_hx.out]; rfl
      have huo : ∀ u ∈ us, u.oneCell' = true := by rw [H_hus.out]; exact oneCell_ints _ _
      have HMz := hid hMz
      have H_hul := hid hul
      have H_huo := hid huo
      clear hul huo
      clear hMz
      rcases hsp with h1 | ⟨h1, h2⟩ | ⟨h1, h2, h3⟩
      all_goals
        have heq := Heq.out
        have hz0 := Hz0.out
        go_upto_region 6 with (first | (refine wpList_load_blkG (by rfl) 33 _ rfl w.heap.size (by rfl) 33 us _ hbA Tryd.underlying33 rfl H_hiu.out ?_) | (refine wpList_load_blkG (by rfl) 33 _ rfl (w.heap.size + 1) (by rfl) 33 vs _ hbB Tryd.underlying33 rfl H_hiv.out ?_))
        clear heq hz0
        go_upto_region 7 with (first | (refine wpList_load_blk rfl 33 _ rfl w.heap.size (by rfl) 33 us _ hbA Tryd.underlying33 rfl H_hiu.out ?_) | (refine wpList_store_blk rfl 33 _ _ rfl w2.heap.size (by rfl) 33 _ us (by rfl) (HMz.out w2) H_hul.out H_hiu.out H_huo.out ?_; intro w3 hM3 he3; have H3e := hid he3; clear he3))
        have hb3 : Below w2.heap.size w2 w3 := H3e.out ▸ below_setCells (Nat.le_refl _) _ _ _ ((Below.refl _ _).alloc (Nat.le_refl _) _)
        have hbA3 := hbA.later hb3
        have z3 := hM3.lt
        rw [H_hus.out] at hM3
        have cM := hM3.cellI (j := j) (by have := H_hx.out; omega)
        rw [← Hxe.out] at cM
        have fM := hM3.free j
        go_wp2_with fail
        refine wp_gen fun w4 hc4 => ?_
        have hM4 : Blk w4 w2.heap.size 33 ((xs.set j (x + 1)).map (Value.int .u8)) := Blk.later (hM3.setI j _) hc4
        have hbA4 : Blk w4 w.heap.size 33 us := Blk.later (hbA3.setFar (by have := hbA.lt; simp; omega) _) hc4
        have hb4 : Below w2.heap.size w2 w4 := bchain (hb3.setCell (by simp) _) hc4
        clear hM3 hbA3 hc4 cM fM cA
        go_loopw [14] (fun q wr => ∃ (i : Nat) (ms : List Int), j + 1 ≤ i ∧ i ≤ 32 ∧ q = .int .i64 i ∧ Below w2.heap.size w2 wr ∧ Hid (ms.length = 32) ∧ Bytes8 ms ∧ Hid (ms.take j = xs.take j) ∧ Hid (ms[j]?.getD 0 = x + 1) ∧ Blk wr w2.heap.size 33 (ms.map (Value.int .u8)) ∧ Blk wr w.heap.size 33 us) (fun q _ => 32 - (intOf q).toNat)
        case atStart =>
          refine ⟨j + 1, xs.set j (x + 1), Nat.le_refl _, by omega, by go_num, hb4, hid (by rw [List.length_set]; exact H_hx.out), hx8.set j _ (by omega), hid ?_, hid ?_, hM4, hbA4⟩
          · rw [List.take_set_of_le (Nat.le_refl _)]
          · rw [List.getElem?_set_self (by have := H_hx.out; omega)]; rfl
        case round =>
          clear hM4 hbA4 hb4 hb3
          obtain ⟨i, ms, hji, hi, rfl, hbw, Hml, hm8, Hmt, Hmj, hM, hA⟩ := hrel
          by_cases hlt : i < 32
          · have hltI : (i : Int) < 32 := by omega
            have cM := hM.cellI (j := i) (by have := Hml.out; omega)
            have fM := hM.free i
            go_wp2_with fail
            go_roundw
            case rel =>
              refine ⟨i + 1, ms.set i 0, by omega, by omega, by go_num, hbw.setCell (by simp) _, hid (by rw [List.length_set]; exact Hml.out), hm8.set i _ (by omega), hid ?_, hid ?_, hM.setI i 0, hA.setFar (by have := hbA.lt; simp; omega) _⟩
              · rw [List.take_set_of_le (by omega)]; exact Hmt.out
              · rw [List.getElem?_set_ne (by omega)]; exact Hmj.out
            case measure => simp [intOf]; omega
          · have hge : (32 : Int) ≤ (i : Int) := by omega
            obtain ⟨qs, hqs⟩ : ∃ qs, qs = ms.map (Value.int .u8) := ⟨_, rfl⟩
            have hiq : (Tryd.prog.info? 33).map (·.size) = some qs.length := by rw [hqs, List.length_map, Hml.out]; exact info32
            have hcm : ∀ w, Calls Tryd.prog 23 #[.agg us.toArray, .agg qs.toArray] w fun e w' => e = .returned (.int .i64 (-1)) ∧ Below w.heap.size w w' := fun w => by
              have h := cmp_any xs ms w H_hx.out Hml.out hx8 hm8
              rw [cmpZ_less xs ms j (by have := H_hx.out; omega) (by have := Hml.out; omega) Hmt.out.symm (by rw [Hmj.out, ← Hxe.out]; omega), ← H_hus.out, ← hqs] at h
              exact h
            have Hcm := hid hcm
            rw [← hqs] at hM
            have H_hqs := hid hqs
            have H_hiq := hid hiq
            clear hqs hiq
            clear hcm
            have hbr := bchain hb2 hbw
            go_wp2_with (first | (refine wpList_load_blk rfl 33 _ rfl w.heap.size (by rfl) 33 us _ hA Tryd.underlying33 rfl H_hiu.out ?_) | (refine wpList_load_blk rfl 33 _ rfl w2.heap.size (by rfl) 33 qs _ hM Tryd.underlying33 rfl H_hiq.out ?_))
            with_reducible refine (Hcm.out _).mono ?_
            rintro e w6 ⟨rfl, hc6⟩
            have hb6 := bchain hbr hc6
            go_wp2_with fail
            with_reducible refine (alive_any _ (hK.later hb6) (hwf _ hb6)).mono ?_
            rintro e w7 ⟨rfl, hc7⟩
            go_wp2_with fail
            go_ret
            exact ⟨rfl, bchain hb6 hc7⟩

end Go.Proofs.YtlilodfddojlhaaDoor
