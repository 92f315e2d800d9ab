/- TrieB: TrieConcat, TrieNode, TrieNode2, TrieRoot, TrieROf. -/
import Derived.Test.YtfabcdpmnbeflaaDoorDigOf
import Derived.Test.YtfabcdpmnbeflaaDoorTrieA
/- slices.Concat of any slices of bytes. -/
namespace Go.Proofs.YtfabcdpmnbeflaaDoor
set_option linter.unusedSimpArgs false
set_option linter.unusedVariables false
set_option linter.unnecessarySimpa false
open Go.RowKit
set_option maxRecDepth 100000

structure TabK (w : World) : Prop where
  k : CellsAt w (some ⟨1, 0, none⟩) (kcs.map (Value.int .u32))
  z : 1 < w.heap.size
theorem TabK.later {w w' : World} (h : TabK w) (hb : Below w.heap.size w w') : TabK w' := ⟨h.k.later hb, Nat.lt_of_lt_of_le h.z hb.size⟩
theorem flat_le (l : List (List Int)) (k : Nat) : (l.take k).flatten.length ≤ l.flatten.length := by
  have : l = l.take k ++ l.drop k := (List.take_append_drop k l).symm
  rw [this, List.flatten_append, List.length_append]
  rw [← this]; omega
set_option maxHeartbeats 2000000 in
theorem concat_any (l : List (List Int)) (vs : List Value) (a : Option Addr) (n c : Nat) (w : World) (hP : PiecesIn w a vs l) (hn : n = l.length) (hb : l.flatten.length ≤ 140737488355327) :
    Calls Tryd.prog 56 #[.slice a n c] w fun e w' =>
      ∃ a' c', e = .returned (.slice a' l.flatten.length c') ∧ OwnX w' w.heap.size 5 1 (.slice a' l.flatten.length c') l.flatten.length (l.flatten.map (Value.int .u8)) ∧ Below w.heap.size w w' := by
  obtain ⟨i0, hi, hz0, hz1, hz2⟩ := info_parts info_u8
  have hml := hP.len
  unfold maxLen at hml
  rw [← hn] at hml
  obtain ⟨N, hN⟩ : ∃ N, l.flatten.length = N := ⟨_, rfl⟩
  have hle := fun k => flat_le l k
  rw [hN] at hb
  simp only [hN] at hle ⊢
  have hnI : (n : Int) ≤ 9223372036854775807 := by omega
  have H_hn := Box.mk hn
  have H_hle := Box.mk hle
  have H_hN := Box.mk hN
  clear hn hle hN
  go_enter Tryd.func56, Tryd.ntmps56
  have hb0 := Below.refl w.heap.size w
  go_wp2_with fail
  go_loop [3, 11] (fun s q => ∃ k S : Nat, k ≤ n ∧ q = .int .i64 k ∧ s = .int .i64 (S : Int) ∧ S ≤ N ∧ Box (S = (l.take k).flatten.length)) (fun _ q => n - (intOf q).toNat)
  case atStart => exact ⟨0, 0, by omega, rfl, rfl, by omega, ⟨by simp⟩⟩
  case round =>
    obtain ⟨k, S, hk, rfl, rfl, hSN, hS⟩ := hrel
    by_cases hlt : k < n
    · have hlt' : (k : Int) < (n : Int) := by omega
      obtain ⟨b, o, x, m, cx, rfl, cc, hm, _⟩ := hP.at (i := k) (by have := H_hn.out; omega)
      have hsum : S + m = (l.take (k + 1)).flatten.length := by rw [flat_take_succ (by have := H_hn.out; omega), List.length_append, ← hm, hS.out]
      have hsm : S + m ≤ N := by rw [hsum]; exact H_hle.out _
      have H_hsum := Box.mk hsum
      have H_hm := Box.mk hm
      clear hsum hm
      go_wp2_with fail
      go_round
      case rel => exact ⟨k + 1, S + m, by omega, by go_num, by go_num, hsm, H_hsum⟩
      case measure => simp [intOf]; omega
    · have hge : (n : Int) ≤ (k : Int) := by omega
      have hSe : S = N := by
        have h1 := hS.out
        have h2 := H_hN.out
        rw [List.take_of_length_le (by have := H_hn.out; omega)] at h1
        omega
      subst hSe
      clear hlt hSN
      go_wp2_with fail
      with_reducible refine (grow8_any S _ hb).mono ?_
      rintro e w1 ⟨a3, c3, rfl, o3, hc1⟩
      have hb1 : Below w.heap.size w w1 := bchain (by repeat' (first | with_reducible exact hb0 | with_reducible refine Below.drew ?_ | with_reducible refine below_drewN ?_ _ | with_reducible refine Below.alloc ?_ (by have := hb0.size; first | (simp; done) | (simp; omega) | omega) _ | with_reducible refine Below.setCell ?_ (by first | (simp; done) | (simp; omega) | omega) _)) hc1
      clear hc1 hb0
      have hP1 := hP.later hb1
      go_wp2_with fail
      refine wp_gen fun w2 hc2 => ?_
      have hb2 : Below w.heap.size w w2 := bchain hb1 hc2
      have o4 := o3.later hc2
      clear hc2 o3 hb1 hP1
      go_loopw [6, 27] (fun s q wr => ∃ (k : Nat) (av : Option Addr) (cv m : Nat), k ≤ n ∧ q = .int .i64 k ∧ s = .slice av m cv ∧ m ≤ S ∧ Box (m = (l.take k).flatten.length) ∧ Below w.heap.size w wr ∧ OwnX wr w.heap.size 5 1 (.slice av m cv) m ((l.take k).flatten.map (Value.int .u8))) (fun _ q _ => n - (intOf q).toNat)
      case atStart => exact ⟨0, a3, c3, 0, by omega, rfl, rfl, by omega, ⟨by simp⟩, hb2, by simpa using o4⟩
      case round =>
        clear o4 hb2
        obtain ⟨k, av, cv, m, hk, rfl, rfl, hmS, HM, hbw, ow⟩ := hrel
        by_cases hlt : k < n
        · have hlt' : (k : Int) < (n : Int) := by omega
          obtain ⟨b, o, x, p, cx, rfl, cc, hp, kx, h8, _⟩ := (hP.later hbw).at (i := k) (by have := H_hn.out; omega)
          have hsum : m + p = (l.take (k + 1)).flatten.length := by rw [flat_take_succ (by have := H_hn.out; omega), List.length_append, ← hp, HM.out]
          have hsm : m + p ≤ S := by rw [hsum]; exact H_hle.out _
          have hcat : (l.take (k + 1)).flatten.map (Value.int .u8) = (l.take k).flatten.map (Value.int .u8) ++ (pc l k).map (Value.int .u8) := by rw [flat_take_succ (by have := H_hn.out; omega), List.map_append]
          have hpl : ((pc l k).map (Value.int .u8)).length = p * 1 := by rw [List.length_map, hp, Nat.mul_one]
          have z2 := hbw.size
          have H_hsum := Box.mk hsum
          have H_hp := Box.mk hp
          have H_hcat := Box.mk hcat
          have H_hpl := Box.mk hpl
          have H_h8 := Box.mk h8
          clear hsum hp hcat hpl h8
          go_wp2_with (at_builtin; refine stop ?_)
          refine Stop.go ?_
          refine wpList_append_x _ rfl _ _ 39 rfl w.heap.size 5 i0 (.int .u8 0) 1 1 Tryd.underlying39 hi hz0 hz1 hz2 rfl (by decide) (.slice av m cv) m _ rfl ow x p cx ((pc l k).map (Value.int .u8)) rfl H_hpl.out kx (ints_oneCell _ _) (by unfold maxLen; omega) (by omega) z2 ?_
          intro a5 c5 w5 o5 hg hk5
          have hb5 : Below w.heap.size w w5 := below_grownX hbw hg z2 (fun q h => (ow.lt q h).1)
          clear hg hk5 ow kx
          go_wp2_with fail
          go_roundw
          case rel => exact ⟨k + 1, a5, c5, m + p, by omega, by go_num, rfl, hsm, H_hsum, hb5, by rw [H_hcat.out]; exact o5⟩
          case measure => simp [intOf]; omega
        · have hge : (n : Int) ≤ (k : Int) := by omega
          have hte : l.take k = l := List.take_of_length_le (by have := H_hn.out; omega)
          have hmN : m = S := by
            have h1 := HM.out
            have h2 := H_hN.out
            rw [hte] at h1
            omega
          rw [hte] at ow
          have H_hmN := Box.mk hmN
          have H_hte := Box.mk hte
          clear hmN hte
          clear hlt
          go_wp2_with fail
          go_ret
          exact ⟨av, cv, by rw [← H_hmN.out]; rfl, by rw [← H_hmN.out]; exact ow, hbw⟩

end Go.Proofs.YtfabcdpmnbeflaaDoor

/- The digests of one id, and of a split bit and two digests. -/
namespace Go.Proofs.YtfabcdpmnbeflaaDoor
set_option linter.unusedSimpArgs false
set_option linter.unusedVariables false
set_option linter.unnecessarySimpa false
open Go.RowKit
set_option maxRecDepth 100000

theorem sumP_short {bs : List Int} (h : bs.length ≤ 10000) : sumP [bs] = (ofL bs, 0) := by
  unfold sumP
  rw [if_neg (by simp [longB]; omega)]
  simp
def nodeB (i : Int) (x y : List Int) : List Int := 1 :: i :: (x ++ y)
theorem id_bytes {x : List Int} (h : IdIn x) : Bytes8 (0 :: x) := fun y hy => by
  rcases List.mem_cons.1 hy with rfl | hy
  · omega
  · exact h.bytes y hy
theorem node_bytes {x y : List Int} {i : Nat} (hx : IdIn x) (hy : IdIn y) (hi : i < 256) : Bytes8 (nodeB i x y) := fun u hu => by
  rcases List.mem_cons.1 hu with rfl | hu
  · omega
  · rcases List.mem_cons.1 hu with rfl | hu
    · omega
    · exact (hx.bytes.append hy.bytes) u hu
theorem node_len {x y : List Int} {i : Int} (hx : IdIn x) (hy : IdIn y) : (nodeB i x y).length = 66 := by unfold nodeB; simp [hx.len, hy.len]
/-- What a call leaves that hands back a digest and no error. -/
def GivesId (d : List Int) (e : Ending) : Prop := e = .returned (.tuple #[.agg (idC d).toArray, .int .i64 0])

theorem OwnX.madeAt (w : World) (cur : List Value) (base e n size H : Nat) (hH : w.heap.size = H) (hb : base ≤ H) (hm : n ≤ maxLen) (hs : cur.length = n * size) :
    OwnX (w.alloc (.cells cur.toArray e)) base e size (.slice (some ⟨H, 0, none⟩) n n) n cur := by
  subst hH
  exact OwnX.made w cur base e n size hb hm hs
set_option maxHeartbeats 1000000 in
theorem leaf_any (x : List Int) (w : World) (hx : IdIn x) (hT : TabK w) :
    Calls Tryd.prog 44 #[.agg (idC x).toArray] w fun e w' =>
      GivesId (ofL (0 :: x)) e ∧ Below w.heap.size w w' := by
  have hs := fun (W : World) a c (h1 : CellsAt W a ((0 :: x).map (Value.int .u8))) (hT : TabK W) => sum_any (0 :: x) a 33 c W (by simp [hx.len]) h1 (id_bytes hx) (by unfold maxLen; simp [hx.len]) hT.k hT.z
  rw [sumP_short (by simp [hx.len])] at hs
  simp only [idE_mk] at hs
  have hdl := idC_len (ofL_id (0 :: x))
  have hdi := idC_info (ofL_id (0 :: x))
  have hdo := idC_one (ofL (0 :: x))
  obtain ⟨dv, hdv⟩ : ∃ dv, dv = idC (ofL (0 :: x)) := ⟨_, rfl⟩
  rw [← hdv] at hdl hdi hdo
  have hlr : dv.length = (List.replicate 32 (Value.int .u8 0)).length := by rw [hdl]; rfl
  have hs' : ∀ (W : World) a c, CellsAt W a ((0 :: x).map (Value.int .u8)) → TabK W → Calls Tryd.prog 42 #[.slice a 33 c] W fun e w' => e = .returned (.tuple #[.agg dv.toArray, .int .i64 0]) ∧ Below W.heap.size W w' := fun W a c h1 h2 => by rw [hdv]; exact hs W a c h1 h2
  obtain ⟨i0, hi, hz0, hz1, hz2⟩ := info_parts info_u8
  have hxl := idC_len hx
  have hxo := idC_one x
  obtain ⟨us, hus⟩ : ∃ us, us = idC x := ⟨_, rfl⟩
  rw [← hus] at hxl hxo ⊢
  have hbx : ∀ W, Below (w.heap.size + 1 + 1) ((w.alloc (.cells us.toArray 24)).alloc (.cells (List.replicate 32 (Value.int .u8 0)).toArray 24)) W → Blk W (w.heap.size + 1) 24 (List.replicate 32 (Value.int .u8 0)) := fun W h => Blk.below (Blk.newA _ _ _ _ (List.replicate 32 (Value.int .u8 0)) (by simp) rfl) h (by omega)
  have hcx : CellsAt (((w.alloc (.cells us.toArray 24)).alloc (.cells (List.replicate 32 (Value.int .u8 0)).toArray 24)).alloc (.cells #[.int .u8 0] 5)) (some ⟨w.heap.size, 0, none⟩) us := Blk.cellsRow (((Blk.newA w _ _ 24 us rfl rfl).alloc _).alloc _)
  have H_hs := Box.mk hs
  have H_hs' := Box.mk hs'
  have H_hdl := Box.mk hdl
  have H_hdi := Box.mk hdi
  have H_hdo := Box.mk hdo
  have H_hdv := Box.mk hdv
  have H_hlr := Box.mk hlr
  have H_hus := Box.mk hus
  have H_hxl := Box.mk hxl
  have H_hxo := Box.mk hxo
  have H_hT := Box.mk hT
  have H_hx := Box.mk hx
  have H_hbx := Box.mk hbx
  have H_hcx := Box.mk hcx
  clear hs hs' hdl hdi hdo hdv hlr hus hxl hxo hT hx hbx hcx
  go_enter Tryd.func44, Tryd.ntmps44
  have hb0 := Below.refl w.heap.size w
  go_wp2_with (at_builtin; refine stop ?_)
  refine Stop.go ?_
  refine wpList_append_x _ rfl _ _ 39 rfl (w.heap.size + 1 + 1) 5 i0 (.int .u8 0) 1 1 Tryd.underlying39 hi hz0 hz1 hz2 rfl (by decide) _ 1 [.int .u8 0] rfl (OwnX.madeAt _ [.int .u8 0] _ _ 1 1 (w.heap.size + 1 + 1) (by simp) (Nat.le_refl _) (by simp [maxLen]) rfl) (some ⟨w.heap.size, 0, none⟩) 32 32 us (by rfl) (by rw [H_hxl.out]) H_hcx.out H_hxo.out (by unfold maxLen; omega) (by omega) (by simp) ?_
  intro a5 c5 w5 o5 hg hk5
  have hb5' := below_grownX (Below.alloc (Below.refl (w.heap.size + 1 + 1) _) (by simp) _) hg (by simp) (fun q h => by cases h; exact Nat.le_refl _)
  have hb5 : Below w.heap.size w w5 := bchain (((Below.refl w.heap.size w).alloc (Nat.le_refl _) _).alloc (by simp) _) (hb5'.mono (by simp))
  have hI5 := H_hbx.out w5 hb5'
  have hx5 : CellsAt w5 a5 ((0 :: x).map (Value.int .u8)) := by have := o5.cellsAt; rw [H_hus.out] at this; exact this
  clear hb5' hg hk5 o5
  go_wp2_with fail
  with_reducible refine (H_hs'.out _ _ _ hx5 (H_hT.out.later hb5)).mono ?_
  rintro e w6 ⟨rfl, hc6⟩
  have hI6 := hI5.later hc6
  have hb6 := bchain hb5 hc6
  clear hI5 hc6 hx5
  go_wp2_with (refine wpList_store_blk rfl 24 _ _ rfl (w.heap.size + 1) (by rfl) 24 _ dv (by rfl) hI6 H_hlr.out H_hdi.out H_hdo.out ?_; intro wz hBz hez; have Hz := Box.mk hez; clear hez)
  go_wp2_with fail
  have hbz : Below w.heap.size w wz := Hz.out ▸ below_setCells (by omega) _ _ _ hb6
  refine bodyPost_ret (results_blk2 (by rfl) _ _ (w.heap.size + 1) 24 _ _ (.int .i64 0) rfl rfl hBz Tryd.underlying24 rfl H_hdi.out) rfl ⟨?_, hbz⟩
  rw [H_hdv.out]
  rfl
set_option maxHeartbeats 1000000 in
theorem lleaf_any (x : List Int) (w : World) (hx : IdIn x) (hT : TabK w) :
    Calls Tryd.prog 40 #[.agg (idC x).toArray] w fun e w' =>
      GivesId (ofL (0 :: x)) e ∧ Below w.heap.size w w' := by
  have hs := fun (W : World) a c (h1 : CellsAt W a ((0 :: x).map (Value.int .u8))) (hT : TabK W) => sum_any (0 :: x) a 33 c W (by simp [hx.len]) h1 (id_bytes hx) (by unfold maxLen; simp [hx.len]) hT.k hT.z
  rw [sumP_short (by simp [hx.len])] at hs
  simp only [idE_mk] at hs
  have hdl := idC_len (ofL_id (0 :: x))
  have hdi := idC_info (ofL_id (0 :: x))
  have hdo := idC_one (ofL (0 :: x))
  obtain ⟨dv, hdv⟩ : ∃ dv, dv = idC (ofL (0 :: x)) := ⟨_, rfl⟩
  rw [← hdv] at hdl hdi hdo
  have hlr : dv.length = (List.replicate 32 (Value.int .u8 0)).length := by rw [hdl]; rfl
  have hs' : ∀ (W : World) a c, CellsAt W a ((0 :: x).map (Value.int .u8)) → TabK W → Calls Tryd.prog 42 #[.slice a 33 c] W fun e w' => e = .returned (.tuple #[.agg dv.toArray, .int .i64 0]) ∧ Below W.heap.size W w' := fun W a c h1 h2 => by rw [hdv]; exact hs W a c h1 h2
  obtain ⟨i0, hi, hz0, hz1, hz2⟩ := info_parts info_u8
  have hxl := idC_len hx
  have hxo := idC_one x
  obtain ⟨us, hus⟩ : ∃ us, us = idC x := ⟨_, rfl⟩
  rw [← hus] at hxl hxo ⊢
  have hbx : ∀ W, Below (w.heap.size + 1 + 1) ((w.alloc (.cells us.toArray 24)).alloc (.cells (List.replicate 32 (Value.int .u8 0)).toArray 24)) W → Blk W (w.heap.size + 1) 24 (List.replicate 32 (Value.int .u8 0)) := fun W h => Blk.below (Blk.newA _ _ _ _ (List.replicate 32 (Value.int .u8 0)) (by simp) rfl) h (by omega)
  have hcx : CellsAt (((w.alloc (.cells us.toArray 24)).alloc (.cells (List.replicate 32 (Value.int .u8 0)).toArray 24)).alloc (.cells #[.int .u8 0] 5)) (some ⟨w.heap.size, 0, none⟩) us := Blk.cellsRow (((Blk.newA w _ _ 24 us rfl rfl).alloc _).alloc _)
  have H_hs := Box.mk hs
  have H_hs' := Box.mk hs'
  have H_hdl := Box.mk hdl
  have H_hdi := Box.mk hdi
  have H_hdo := Box.mk hdo
  have H_hdv := Box.mk hdv
  have H_hlr := Box.mk hlr
  have H_hus := Box.mk hus
  have H_hxl := Box.mk hxl
  have H_hxo := Box.mk hxo
  have H_hT := Box.mk hT
  have H_hx := Box.mk hx
  have H_hbx := Box.mk hbx
  have H_hcx := Box.mk hcx
  clear hs hs' hdl hdi hdo hdv hlr hus hxl hxo hT hx hbx hcx
  go_enter Tryd.func40, Tryd.ntmps40
  have hb0 := Below.refl w.heap.size w
  go_wp2_with (at_builtin; refine stop ?_)
  refine Stop.go ?_
  refine wpList_append_x _ rfl _ _ 39 rfl (w.heap.size + 1 + 1) 5 i0 (.int .u8 0) 1 1 Tryd.underlying39 hi hz0 hz1 hz2 rfl (by decide) _ 1 [.int .u8 0] rfl (OwnX.madeAt _ [.int .u8 0] _ _ 1 1 (w.heap.size + 1 + 1) (by simp) (Nat.le_refl _) (by simp [maxLen]) rfl) (some ⟨w.heap.size, 0, none⟩) 32 32 us (by rfl) (by rw [H_hxl.out]) H_hcx.out H_hxo.out (by unfold maxLen; omega) (by omega) (by simp) ?_
  intro a5 c5 w5 o5 hg hk5
  have hb5' := below_grownX (Below.alloc (Below.refl (w.heap.size + 1 + 1) _) (by simp) _) hg (by simp) (fun q h => by cases h; exact Nat.le_refl _)
  have hb5 : Below w.heap.size w w5 := bchain (((Below.refl w.heap.size w).alloc (Nat.le_refl _) _).alloc (by simp) _) (hb5'.mono (by simp))
  have hI5 := H_hbx.out w5 hb5'
  have hx5 : CellsAt w5 a5 ((0 :: x).map (Value.int .u8)) := by have := o5.cellsAt; rw [H_hus.out] at this; exact this
  clear hb5' hg hk5 o5
  go_wp2_with fail
  with_reducible refine (H_hs'.out _ _ _ hx5 (H_hT.out.later hb5)).mono ?_
  rintro e w6 ⟨rfl, hc6⟩
  have hI6 := hI5.later hc6
  have hb6 := bchain hb5 hc6
  clear hI5 hc6 hx5
  go_wp2_with (refine wpList_store_blk rfl 24 _ _ rfl (w.heap.size + 1) (by rfl) 24 _ dv (by rfl) hI6 H_hlr.out H_hdi.out H_hdo.out ?_; intro wz hBz hez; have Hz := Box.mk hez; clear hez)
  go_wp2_with fail
  have hbz : Below w.heap.size w wz := Hz.out ▸ below_setCells (by omega) _ _ _ hb6
  refine bodyPost_ret (results_blk2 (by rfl) _ _ (w.heap.size + 1) 24 _ _ (.int .i64 0) rfl rfl hBz Tryd.underlying24 rfl H_hdi.out) rfl ⟨?_, hbz⟩
  rw [H_hdv.out]
  rfl
set_option maxHeartbeats 1000000 in
theorem rleaf_any (x : List Int) (w : World) (hx : IdIn x) :
    Calls Tryd.prog 47 #[.agg (idC x).toArray] w fun e w' =>
      e = .returned (.agg (idC (ofL (0 :: x))).toArray) ∧ Below w.heap.size w w' := by
  have hs := fun (W : World) a c (h1 : CellsAt W a ((0 :: x).map (Value.int .u8))) => of_any (0 :: x) a 33 c W (by simp [hx.len]) h1 (id_bytes hx) (by simp [hx.len])
  have hdl := idC_len (ofL_id (0 :: x))
  have hdi := idC_info (ofL_id (0 :: x))
  have hdo := idC_one (ofL (0 :: x))
  obtain ⟨dv, hdv⟩ : ∃ dv, dv = idC (ofL (0 :: x)) := ⟨_, rfl⟩
  rw [← hdv] at hdl hdi hdo
  have hlr : dv.length = (List.replicate 32 (Value.int .u8 0)).length := by rw [hdl]; rfl
  have hs' : ∀ (W : World) a c, CellsAt W a ((0 :: x).map (Value.int .u8)) → Calls Tryd.prog 57 #[.slice a 33 c] W fun e w' => e = .returned (.agg dv.toArray) ∧ Below W.heap.size W w' := fun W a c h1 => by rw [hdv]; exact hs W a c h1
  obtain ⟨i0, hi, hz0, hz1, hz2⟩ := info_parts info_u8
  have hxl := idC_len hx
  have hxo := idC_one x
  obtain ⟨us, hus⟩ : ∃ us, us = idC x := ⟨_, rfl⟩
  rw [← hus] at hxl hxo ⊢
  have hbx : ∀ W, Below (w.heap.size + 1 + 1) ((w.alloc (.cells us.toArray 24)).alloc (.cells (List.replicate 32 (Value.int .u8 0)).toArray 24)) W → Blk W (w.heap.size + 1) 24 (List.replicate 32 (Value.int .u8 0)) := fun W h => Blk.below (Blk.newA _ _ _ _ (List.replicate 32 (Value.int .u8 0)) (by simp) rfl) h (by omega)
  have hcx : CellsAt (((w.alloc (.cells us.toArray 24)).alloc (.cells (List.replicate 32 (Value.int .u8 0)).toArray 24)).alloc (.cells #[.int .u8 0] 5)) (some ⟨w.heap.size, 0, none⟩) us := Blk.cellsRow (((Blk.newA w _ _ 24 us rfl rfl).alloc _).alloc _)
  rw [← hdv]
  have H_hs := Box.mk hs
  have H_hs' := Box.mk hs'
  have H_hdl := Box.mk hdl
  have H_hdi := Box.mk hdi
  have H_hdo := Box.mk hdo
  have H_hdv := Box.mk hdv
  have H_hlr := Box.mk hlr
  have H_hus := Box.mk hus
  have H_hxl := Box.mk hxl
  have H_hxo := Box.mk hxo
  have H_hx := Box.mk hx
  have H_hbx := Box.mk hbx
  have H_hcx := Box.mk hcx
  clear hs hs' hdl hdi hdo hdv hlr hus hxl hxo hx hbx hcx
  go_enter Tryd.func47, Tryd.ntmps47
  have hb0 := Below.refl w.heap.size w
  go_wp2_with (at_builtin; refine stop ?_)
  refine Stop.go ?_
  refine wpList_append_x _ rfl _ _ 39 rfl (w.heap.size + 1 + 1) 5 i0 (.int .u8 0) 1 1 Tryd.underlying39 hi hz0 hz1 hz2 rfl (by decide) _ 1 [.int .u8 0] rfl (OwnX.madeAt _ [.int .u8 0] _ _ 1 1 (w.heap.size + 1 + 1) (by simp) (Nat.le_refl _) (by simp [maxLen]) rfl) (some ⟨w.heap.size, 0, none⟩) 32 32 us (by rfl) (by rw [H_hxl.out]) H_hcx.out H_hxo.out (by unfold maxLen; omega) (by omega) (by simp) ?_
  intro a5 c5 w5 o5 hg hk5
  have hb5' := below_grownX (Below.alloc (Below.refl (w.heap.size + 1 + 1) _) (by simp) _) hg (by simp) (fun q h => by cases h; exact Nat.le_refl _)
  have hb5 : Below w.heap.size w w5 := bchain (((Below.refl w.heap.size w).alloc (Nat.le_refl _) _).alloc (by simp) _) (hb5'.mono (by simp))
  have hI5 := H_hbx.out w5 hb5'
  have hx5 : CellsAt w5 a5 ((0 :: x).map (Value.int .u8)) := by have := o5.cellsAt; rw [H_hus.out] at this; exact this
  clear hb5' hg hk5 o5
  go_wp2_with fail
  with_reducible refine (H_hs'.out _ _ _ hx5).mono ?_
  rintro e w6 ⟨rfl, hc6⟩
  have hI6 := hI5.later hc6
  have hb6 := bchain hb5 hc6
  clear hI5 hc6 hx5
  go_wp2_with (refine wpList_store_blk rfl 24 _ _ rfl (w.heap.size + 1) (by rfl) 24 _ dv (by rfl) hI6 H_hlr.out H_hdi.out H_hdo.out ?_; intro wz hBz hez; have Hz := Box.mk hez; clear hez)
  go_wp2_with fail
  have hbz : Below w.heap.size w wz := Hz.out ▸ below_setCells (by omega) _ _ _ hb6
  exact bodyPost_ret (results_blk (by rfl) _ _ (w.heap.size + 1) 24 _ _ rfl hBz Tryd.underlying24 rfl H_hdi.out) rfl ⟨rfl, hbz⟩

end Go.Proofs.YtfabcdpmnbeflaaDoor

/- The digest of a split bit and two digests. -/
namespace Go.Proofs.YtfabcdpmnbeflaaDoor
set_option linter.unusedSimpArgs false
set_option linter.unusedVariables false
set_option linter.unnecessarySimpa false
open Go.RowKit
set_option maxRecDepth 100000

set_option maxHeartbeats 1000000 in
theorem rnode_any (i : Nat) (x y : List Int) (w : World) (hx : IdIn x) (hy : IdIn y) (hi : i < 256) :
    Calls Tryd.prog 48 #[.int .i64 i, .agg (idC x).toArray, .agg (idC y).toArray] w fun e w' =>
      e = .returned (.agg (idC (ofL (nodeB i x y))).toArray) ∧ Below w.heap.size w w' := by
  have hs := fun (W : World) a c (h1 : CellsAt W a ((nodeB i x y).map (Value.int .u8))) => of_any (nodeB i x y) a 66 c W (by rw [node_len hx hy]) h1 (node_bytes hx hy hi) (by omega)
  have hdl := idC_len (ofL_id (nodeB i x y))
  have hdi := idC_info (ofL_id (nodeB i x y))
  have hdo := idC_one (ofL (nodeB i x y))
  obtain ⟨dv, hdv⟩ : ∃ dv, dv = idC (ofL (nodeB i x y)) := ⟨_, rfl⟩
  rw [← hdv] at hdl hdi hdo
  have hlr : dv.length = (List.replicate 32 (Value.int .u8 0)).length := by rw [hdl]; rfl
  have hs' : ∀ (W : World) a c, CellsAt W a ((nodeB i x y).map (Value.int .u8)) → Calls Tryd.prog 57 #[.slice a 66 c] W fun e w' => e = .returned (.agg dv.toArray) ∧ Below W.heap.size W w' := fun W a c h1 => by rw [hdv]; exact hs W a c h1
  obtain ⟨i0, hif, hz0, hz1, hz2⟩ := info_parts info_u8
  have hxl := idC_len hx
  have hxo := idC_one x
  have hyl := idC_len hy
  have hyo := idC_one y
  obtain ⟨us, hus⟩ : ∃ us, us = idC x := ⟨_, rfl⟩
  obtain ⟨vs, hvs⟩ : ∃ vs, vs = idC y := ⟨_, rfl⟩
  rw [← hus] at hxl hxo ⊢
  rw [← hvs] at hyl hyo ⊢
  have hiI : (i : Int) < 256 := by omega
  have hwi : IntKind.u8.wrap (i : Int) = i := by rw [IntKind.wrap_u8]; omega
  have hb3 : Below w.heap.size w (((w.alloc (.cells us.toArray 24)).alloc (.cells vs.toArray 24)).alloc (.cells (List.replicate 32 (Value.int .u8 0)).toArray 24)) := (((Below.refl _ _).alloc (Nat.le_refl _) _).alloc (by simp) _).alloc (by simp; omega) _
  have hbx : ∀ W, Below (w.heap.size + 1 + 1 + 1) (((w.alloc (.cells us.toArray 24)).alloc (.cells vs.toArray 24)).alloc (.cells (List.replicate 32 (Value.int .u8 0)).toArray 24)) W → Blk W (w.heap.size + 1 + 1) 24 (List.replicate 32 (Value.int .u8 0)) ∧ Blk W w.heap.size 24 us ∧ Blk W (w.heap.size + 1) 24 vs := fun W h => ⟨Blk.below (Blk.newA _ _ _ _ (List.replicate 32 (Value.int .u8 0)) (by simp) rfl) h (by omega), Blk.below (((Blk.newA w _ _ _ us rfl rfl).alloc _).alloc _) h (by omega), Blk.below ((Blk.newA _ _ _ _ vs (by simp) rfl).alloc _) h (by omega)⟩
  rw [← hdv]
  have H_hs := Box.mk hs
  have H_hs' := Box.mk hs'
  have H_hdl := Box.mk hdl
  have H_hdi := Box.mk hdi
  have H_hdo := Box.mk hdo
  have H_hdv := Box.mk hdv
  have H_hlr := Box.mk hlr
  have H_hus := Box.mk hus
  have H_hvs := Box.mk hvs
  have H_hxl := Box.mk hxl
  have H_hxo := Box.mk hxo
  have H_hyl := Box.mk hyl
  have H_hyo := Box.mk hyo
  have H_hx := Box.mk hx
  have H_hy := Box.mk hy
  have H_hbx := Box.mk hbx
  have H_hb3 := Box.mk hb3
  clear hs hs' hdl hdi hdo hdv hlr hus hvs hxl hxo hyl hyo hx hy hbx hb3
  go_enter Tryd.func48, Tryd.ntmps48
  have hb0 := Below.refl w.heap.size w
  go_wp2_with (at_builtin; refine stop ?_)
  refine Stop.go ?_
  refine wpList_append_x _ rfl _ _ 39 rfl (w.heap.size + 1 + 1 + 1) 5 i0 (.int .u8 0) 1 1 Tryd.underlying39 hif hz0 hz1 hz2 rfl (by decide) _ 2 [.int .u8 1, .int .u8 i] rfl (OwnX.madeAt _ [.int .u8 1, .int .u8 i] _ _ 2 1 (w.heap.size + 1 + 1 + 1) (by simp) (Nat.le_refl _) (by simp [maxLen]) rfl) (some ⟨w.heap.size, 0, none⟩) 32 32 us (by rfl) (by rw [H_hxl.out]) ((H_hbx.out _ (Below.alloc (Below.refl (w.heap.size + 1 + 1 + 1) _) (by simp) _)).2.1.cellsRow) H_hxo.out (by unfold maxLen; omega) (by omega) (by simp) ?_
  intro a5 c5 w5 o5 hg hk5
  have hb5' := below_grownX (Below.alloc (Below.refl (w.heap.size + 1 + 1 + 1) _) (by simp) _) hg (by simp) (fun q h => by cases h; exact Nat.le_refl _)
  clear hg hk5
  have z5 : w.heap.size + 1 + 1 + 1 ≤ w5.heap.size := by have := hb5'.size; simp at this; omega
  go_wp2_with (at_builtin; refine stop ?_)
  refine Stop.go ?_
  refine wpList_append_x _ rfl _ _ 39 rfl (w.heap.size + 1 + 1 + 1) 5 i0 (.int .u8 0) 1 1 Tryd.underlying39 hif hz0 hz1 hz2 rfl (by decide) _ 34 _ (by rfl) o5 (some ⟨w.heap.size + 1, 0, none⟩) 32 32 vs (by rfl) (by rw [H_hyl.out]) ((H_hbx.out _ hb5').2.2.cellsRow) H_hyo.out (by unfold maxLen; omega) (by omega) z5 ?_
  intro a6 c6 w6 o6 hg hk6
  have hb6' := below_grownX hb5' hg z5 (fun q h => (o5.lt q h).1)
  clear hg hk6 o5 hb5' z5
  have hb6 : Below w.heap.size w w6 := bchain H_hb3.out (hb6'.mono (by first | (simp; done) | (simp; omega)))
  have hI6 := (H_hbx.out _ hb6').1
  have hx6 : CellsAt w6 a6 ((nodeB i x y).map (Value.int .u8)) := by have := o6.cellsAt; rw [H_hus.out, H_hvs.out] at this; simpa [nodeB, idC] using this
  clear hb6' o6
  go_wp2_with fail
  with_reducible refine (H_hs'.out _ _ _ hx6).mono ?_
  rintro e w7 ⟨rfl, hc7⟩
  have hI7 := hI6.later hc7
  have hb7 := bchain hb6 hc7
  clear hI6 hc7 hx6
  go_wp2_with (refine wpList_store_blk rfl 24 _ _ rfl (w.heap.size + 1 + 1) (by rfl) 24 _ dv (by rfl) hI7 H_hlr.out H_hdi.out H_hdo.out ?_; intro wz hBz hez; have Hz := Box.mk hez; clear hez)
  go_wp2_with fail
  have hbz : Below w.heap.size w wz := Hz.out ▸ below_setCells (by omega) _ _ _ hb7
  exact bodyPost_ret (results_blk (by rfl) _ _ (w.heap.size + 1 + 1) 24 _ _ rfl hBz Tryd.underlying24 rfl H_hdi.out) rfl ⟨rfl, hbz⟩

/-- What the digest's pieces are in memory. -/
def VPieces (l : List (List Int)) : Value → World → Prop := fun v w => ∃ a c vs, v = .slice a l.length c ∧ PiecesIn w a vs l
theorem VPieces.last {l : List (List Int)} (v : Value) (w w' : World) (h : VPieces l v w) (hb : Below w.heap.size w w') : VPieces l v w' :=
  let ⟨a, c, vs, hv, h⟩ := h
  ⟨a, c, vs, hv, h.later hb⟩
theorem piece_at {w : World} {a : Option Addr} {bs : List Int} {n c : Nat} (hn : n = bs.length) (h : CellsAt w a (bs.map (Value.int .u8))) (h8 : Bytes8 bs) (hl : bs.length ≤ maxLen) : PieceAt w (.slice a n c) bs := ⟨a, c, by rw [hn], h, h8, hl⟩
theorem flat3 (i : Int) (x y : List Int) : [[1, i], x, y].flatten = nodeB i x y := by simp [nodeB]
set_option maxHeartbeats 2000000 in
theorem node_any (i : Nat) (x y : List Int) (w : World) (hx : IdIn x) (hy : IdIn y) (hi : i < 256) (hT : TabK w) :
    Calls Tryd.prog 46 #[.int .i64 i, .agg (idC x).toArray, .agg (idC y).toArray] w fun e w' =>
      GivesId (ofL (nodeB i x y)) e ∧ Below w.heap.size w w' := by
  have hs := fun (W : World) a c (h1 : CellsAt W a ((nodeB i x y).map (Value.int .u8))) (hT : TabK W) => sum_any (nodeB i x y) a 66 c W (by rw [node_len hx hy]) h1 (node_bytes hx hy hi) (by rw [node_len hx hy]; unfold maxLen; omega) hT.k hT.z
  rw [sumP_short (by rw [node_len hx hy]; omega)] at hs
  simp only [idE_mk] at hs
  have hdl := idC_len (ofL_id (nodeB i x y))
  have hdi := idC_info (ofL_id (nodeB i x y))
  have hdo := idC_one (ofL (nodeB i x y))
  obtain ⟨dv, hdv⟩ : ∃ dv, dv = idC (ofL (nodeB i x y)) := ⟨_, rfl⟩
  rw [← hdv] at hdl hdi hdo
  have hlr : dv.length = (List.replicate 32 (Value.int .u8 0)).length := by rw [hdl]; rfl
  have hs' : ∀ (W : World) a c, CellsAt W a ((nodeB i x y).map (Value.int .u8)) → TabK W → Calls Tryd.prog 42 #[.slice a 66 c] W fun e w' => e = .returned (.tuple #[.agg dv.toArray, .int .i64 0]) ∧ Below W.heap.size W w' := fun W a c h1 h2 => by rw [hdv]; exact hs W a c h1 h2
  obtain ⟨i0, hif, hz0, hz1, hz2⟩ := info_parts info_u8
  have hxl := idC_len hx
  have hxo := idC_one x
  have hyl := idC_len hy
  have hyo := idC_one y
  obtain ⟨us, hus⟩ : ∃ us, us = idC x := ⟨_, rfl⟩
  obtain ⟨vs, hvs⟩ : ∃ vs, vs = idC y := ⟨_, rfl⟩
  rw [← hus] at hxl hxo ⊢
  rw [← hvs] at hyl hyo ⊢
  have hiI : (i : Int) < 256 := by omega
  have hwi : IntKind.u8.wrap (i : Int) = i := by rw [IntKind.wrap_u8]; omega
  have hb3 : Below w.heap.size w (((w.alloc (.cells us.toArray 24)).alloc (.cells vs.toArray 24)).alloc (.cells (List.replicate 32 (Value.int .u8 0)).toArray 24)) := (((Below.refl _ _).alloc (Nat.le_refl _) _).alloc (by simp) _).alloc (by simp; omega) _
  have hbx : ∀ W, Below (w.heap.size + 1 + 1 + 1) (((w.alloc (.cells us.toArray 24)).alloc (.cells vs.toArray 24)).alloc (.cells (List.replicate 32 (Value.int .u8 0)).toArray 24)) W → Blk W (w.heap.size + 1 + 1) 24 (List.replicate 32 (Value.int .u8 0)) ∧ Blk W w.heap.size 24 us ∧ Blk W (w.heap.size + 1) 24 vs := fun W h => ⟨Blk.below (Blk.newA _ _ _ _ (List.replicate 32 (Value.int .u8 0)) (by simp) rfl) h (by omega), Blk.below (((Blk.newA w _ _ _ us rfl rfl).alloc _).alloc _) h (by omega), Blk.below ((Blk.newA _ _ _ _ vs (by simp) rfl).alloc _) h (by omega)⟩
  have h8 : Bytes8 [1, (i : Int)] := fun u hu => by simp at hu; omega
  have hfl : ([[1, (i : Int)], x, y] : List (List Int)).flatten.length = 66 := by rw [flat3, node_len hx hy]
  have hcat := fun (W : World) a c vs (hP : PiecesIn W a vs [[1, (i : Int)], x, y]) => concat_any _ vs a 3 c W hP rfl (by rw [hfl]; omega)
  simp only [hfl] at hcat
  rw [flat3] at hcat
  have H_hs := Box.mk hs
  have H_hs' := Box.mk hs'
  have H_hdl := Box.mk hdl
  have H_hdi := Box.mk hdi
  have H_hdo := Box.mk hdo
  have H_hdv := Box.mk hdv
  have H_hlr := Box.mk hlr
  have H_hus := Box.mk hus
  have H_hvs := Box.mk hvs
  have H_hxl := Box.mk hxl
  have H_hxo := Box.mk hxo
  have H_hyl := Box.mk hyl
  have H_hyo := Box.mk hyo
  have H_hx := Box.mk hx
  have H_hy := Box.mk hy
  have H_hbx := Box.mk hbx
  have H_hb3 := Box.mk hb3
  have H_hT := Box.mk hT
  have H_h8 := Box.mk h8
  have H_hfl := Box.mk hfl
  have H_hcat := Box.mk hcat
  clear hs hs' hdl hdi hdo hdv hlr hus hvs hxl hxo hyl hyo hx hy hbx hb3 hT h8 hfl hcat
  go_enter Tryd.func46, Tryd.ntmps46
  have hb0 := Below.refl w.heap.size w
  go_wp2_with fail
  refine wp_gen fun w1 hc1 => ?_
  have hb1 : Below w.heap.size w w1 := bchain (by repeat' (first | with_reducible exact hb0 | with_reducible refine Below.drew ?_ | with_reducible refine below_drewN ?_ _ | with_reducible refine Below.alloc ?_ (by have := hb0.size; first | (simp; done) | (simp; omega) | omega) _ | with_reducible refine Below.setCell ?_ (by first | (simp; done) | (simp; omega) | omega) _)) hc1
  have hI1 := (H_hbx.out w1 (hc1.mono (by simp))).1
  have hX1 := (H_hbx.out w1 (hc1.mono (by simp))).2.1
  have hY1 := (H_hbx.out w1 (hc1.mono (by simp))).2.2
  clear hc1
  refine wp_region_on_spec_tail [(2, [], fun _ => VCells 2 ([1, (i : Int)].map (Value.int .u8))), (5, [], fun _ => VPieces [[1, (i : Int)], x, y]), (6, [], fun _ => VRow 66 ((nodeB i x y).map (Value.int .u8))), (7, [], fun _ => VIs (.tuple #[.agg dv.toArray, .int .i64 0]))] [2, 5, 6, 7] [] [(2, []), (5, []), (6, []), (7, [])] 10 (by kernel_rfl) (by kernel_rfl) rfl (by kernel_rfl) rfl (by kernel_rfl) ⟨fun _ => VCells.last, fun _ => VPieces.last, fun _ => VRow.last, fun _ => VIs.last, trivial⟩ ?_
  try simp only [List.take_succ_cons, List.take_zero, List.drop_succ_cons, List.drop_zero]
  refine wpSpec_quiet 2 (by kernel_rfl) (by kernel_rfl) ?_
  simp only [List.take_succ_cons, List.take_zero, List.drop_succ_cons, List.drop_zero]
  repeat (go_big_quiet_step (fail))
  refine wpQuiet_nil ?_
  show wpSpec _ _ _ _ _ _ _ _ _ _ _
  refine wpSpec_at [] (VCells 2 ([1, (i : Int)].map (Value.int .u8))) rfl (by first | rfl | (simp [viewS, Act.eval]; done)) rfl (by first | rfl | (simp [Region.wanted]; done)) ?_ rfl ?_
  · intro wq hq hfq
    clear hfq
    unfold Oper.gives; go_simp; exact ⟨(Below.refl _ _).alloc (Nat.le_refl _) _, VCells.of (by omega) (Blk.cellsRow (Blk.newA wq _ _ _ [.int .u8 1, .int .u8 i] rfl rfl))⟩
  rintro x2 ⟨_, ⟨a2, c2, rfl, _⟩⟩
  simp only [Act.put, List.setIfInBounds_toArray, List.set_cons_succ, List.set_cons_zero]
  refine wpSpec_quiet 2 (by kernel_rfl) (by kernel_rfl) ?_
  simp only [List.take_succ_cons, List.take_zero, List.drop_succ_cons, List.drop_zero]
  repeat (go_big_quiet_step (fail))
  refine wpQuiet_nil ?_
  show wpSpec _ _ _ _ _ _ _ _ _ _ _
  refine wpSpec_at [] (VPieces [[1, (i : Int)], x, y]) rfl (by first | rfl | (simp [viewS, Act.eval]; done)) rfl (by first | rfl | (simp [Region.wanted]; done)) ?_ rfl ?_
  · intro wq hq hfq
    have f2 := hfq 2 (by kernel_rfl)
    simp only [upd, Nat.beq, cond] at f2
    clear hfq
    obtain ⟨a2', c2', e2, _, k2⟩ := f2
    cases e2
    have hXq := hX1.later hq
    have hYq := hY1.later hq
    unfold Oper.gives
    go_simp
    refine ⟨(Below.refl _ _).alloc (Nat.le_refl _) _, _, _, [.slice a2 2 c2, .slice (some ⟨w.heap.size, 0, none⟩) 32 32, .slice (some ⟨w.heap.size + 1, 0, none⟩) 32 32], rfl, Blk.cellsRow (Blk.newA wq _ _ _ _ rfl rfl), ⟨piece_at rfl (k2.alloc _) H_h8.out (by simp [maxLen]), piece_at H_hx.out.len.symm (by rw [← idC, ← H_hus.out]; exact hXq.cellsRow.alloc _) H_hx.out.bytes (by rw [H_hx.out.len]; simp [maxLen]), piece_at H_hy.out.len.symm (by rw [← idC, ← H_hvs.out]; exact hYq.cellsRow.alloc _) H_hy.out.bytes (by rw [H_hy.out.len]; simp [maxLen]), trivial⟩, rfl, by simp [maxLen]⟩
  rintro x5 ⟨_, ⟨a5, c5, vs5, rfl, _⟩⟩
  simp only [Act.put, List.setIfInBounds_toArray, List.set_cons_succ, List.set_cons_zero]
  refine wpSpec_at [] (VRow 66 ((nodeB i x y).map (Value.int .u8))) rfl (by first | rfl | (simp [viewS, Act.eval]; done)) rfl (by first | rfl | (simp [Region.wanted]; done)) ?_ rfl ?_
  · intro wq hq hfq
    have f5 := hfq 5 (by kernel_rfl)
    simp only [upd, Nat.beq, cond] at f5
    clear hfq
    obtain ⟨a5', c5', vs5', e5, k5⟩ := f5
    cases e5
    refine gives_call 56 _ _ #[.slice a5 3 c5] rfl (by kernel_rfl) (by simp [Act.eval]) ((H_hcat.out _ _ _ _ k5).mono ?_)
    rintro e w' ⟨a', c', rfl, ho, hb⟩
    exact ⟨_, rfl, hb, _, _, rfl, ho.cellsAt⟩
  rintro x6 ⟨_, ⟨a6, c6, rfl, _⟩⟩
  simp only [Act.put, List.setIfInBounds_toArray, List.set_cons_succ, List.set_cons_zero]
  refine wpSpec_at [] (VIs (.tuple #[.agg dv.toArray, .int .i64 0])) rfl (by first | rfl | (simp [viewS, Act.eval]; done)) rfl (by first | rfl | (simp [Region.wanted]; done)) ?_ rfl ?_
  · intro wq hq hfq
    have f6 := hfq 6 (by kernel_rfl)
    simp only [upd, Nat.beq, cond] at f6
    clear hfq
    obtain ⟨a6', c6', e6, k6⟩ := f6
    cases e6
    refine gives_call 42 _ _ #[.slice a6 66 c6] rfl (by kernel_rfl) (by simp [Act.eval]) ((H_hs'.out _ _ _ k6 (H_hT.out.later (bchain hb1 hq))).mono ?_)
    rintro e w' ⟨rfl, hb⟩
    exact ⟨_, rfl, hb, rfl⟩
  rintro x7 ⟨_, ⟨rfl⟩⟩
  simp only [Act.put, List.setIfInBounds_toArray, List.set_cons_succ, List.set_cons_zero]
  refine wpSpec_quiet 2 (by kernel_rfl) (by kernel_rfl) ?_
  simp only [List.take_succ_cons, List.take_zero, List.drop_succ_cons, List.drop_zero]
  repeat (go_big_quiet_step (fail))
  refine wpQuiet_nil ?_
  show wpSpec _ _ _ _ _ _ _ _ _ _ _
  intro w2 hc2 hfq
  clear hfq
  have hb2 : Below w.heap.size w w2 := bchain (by repeat' (first | with_reducible exact hb1 | with_reducible refine Below.drew ?_ | with_reducible refine below_drewN ?_ _ | with_reducible refine Below.alloc ?_ (by have := hb1.size; first | (simp; done) | (simp; omega) | omega) _ | with_reducible refine Below.setCell ?_ (by first | (simp; done) | (simp; omega) | omega) _)) hc2
  have hI7 := hI1.later hc2
  refine wpList_store_blk rfl 24 _ _ rfl (w.heap.size + 1 + 1) (by rfl) 24 _ dv (by rfl) hI7 H_hlr.out H_hdi.out H_hdo.out ?_
  intro wz hBz hez
  have Hz := Box.mk hez
  clear hez
  go_wp2_with fail
  have hbz : Below w.heap.size w wz := Hz.out ▸ below_setCells (by omega) _ _ _ hb2
  refine bodyPost_ret (results_blk2 (by rfl) _ _ (w.heap.size + 1 + 1) 24 _ _ (.int .i64 0) rfl rfl hBz Tryd.underlying24 rfl H_hdi.out) rfl ⟨?_, hbz⟩
  rw [H_hdv.out]
  rfl

theorem node_cat (i : Int) (x y : List Int) : (([Value.int .u8 1, .int .u8 i] ++ idC x) ++ idC y) = (nodeB i x y).map (Value.int .u8) := by simp [nodeB, idC]
set_option maxHeartbeats 2000000 in
theorem lnode_any (i : Nat) (x y : List Int) (w : World) (hx : IdIn x) (hy : IdIn y) (hi : i < 256) (hT : TabK w) :
    Calls Tryd.prog 25 #[.int .u8 i, .agg (idC x).toArray, .agg (idC y).toArray] w fun e w' =>
      GivesId (ofL (nodeB i x y)) e ∧ Below w.heap.size w w' := by
  have hs := fun (W : World) a c (h1 : CellsAt W a ((nodeB i x y).map (Value.int .u8))) (hT : TabK W) => sum_any (nodeB i x y) a 66 c W (by rw [node_len hx hy]) h1 (node_bytes hx hy hi) (by rw [node_len hx hy]; unfold maxLen; omega) hT.k hT.z
  rw [sumP_short (by rw [node_len hx hy]; omega)] at hs
  simp only [idE_mk] at hs
  have hdl := idC_len (ofL_id (nodeB i x y))
  have hdi := idC_info (ofL_id (nodeB i x y))
  have hdo := idC_one (ofL (nodeB i x y))
  obtain ⟨dv, hdv⟩ : ∃ dv, dv = idC (ofL (nodeB i x y)) := ⟨_, rfl⟩
  rw [← hdv] at hdl hdi hdo
  have hlr : dv.length = (List.replicate 32 (Value.int .u8 0)).length := by rw [hdl]; rfl
  have hs' : ∀ (W : World) a c, CellsAt W a ((nodeB i x y).map (Value.int .u8)) → TabK W → Calls Tryd.prog 42 #[.slice a 66 c] W fun e w' => e = .returned (.tuple #[.agg dv.toArray, .int .i64 0]) ∧ Below W.heap.size W w' := fun W a c h1 h2 => by rw [hdv]; exact hs W a c h1 h2
  obtain ⟨i0, hif, hz0, hz1, hz2⟩ := info_parts info_u8
  have hxl := idC_len hx
  have hxo := idC_one x
  have hyl := idC_len hy
  have hyo := idC_one y
  obtain ⟨us, hus⟩ : ∃ us, us = idC x := ⟨_, rfl⟩
  obtain ⟨vs, hvs⟩ : ∃ vs, vs = idC y := ⟨_, rfl⟩
  rw [← hus] at hxl hxo ⊢
  rw [← hvs] at hyl hyo ⊢
  have hiI : (i : Int) < 256 := by omega
  have hwi : IntKind.u8.wrap (i : Int) = i := by rw [IntKind.wrap_u8]; omega
  have hb3 : Below w.heap.size w (((w.alloc (.cells us.toArray 24)).alloc (.cells vs.toArray 24)).alloc (.cells (List.replicate 32 (Value.int .u8 0)).toArray 24)) := (((Below.refl _ _).alloc (Nat.le_refl _) _).alloc (by simp) _).alloc (by simp; omega) _
  have hbx : ∀ W, Below (w.heap.size + 1 + 1 + 1) (((w.alloc (.cells us.toArray 24)).alloc (.cells vs.toArray 24)).alloc (.cells (List.replicate 32 (Value.int .u8 0)).toArray 24)) W → Blk W (w.heap.size + 1 + 1) 24 (List.replicate 32 (Value.int .u8 0)) ∧ Blk W w.heap.size 24 us ∧ Blk W (w.heap.size + 1) 24 vs := fun W h => ⟨Blk.below (Blk.newA _ _ _ _ (List.replicate 32 (Value.int .u8 0)) (by simp) rfl) h (by omega), Blk.below (((Blk.newA w _ _ _ us rfl rfl).alloc _).alloc _) h (by omega), Blk.below ((Blk.newA _ _ _ _ vs (by simp) rfl).alloc _) h (by omega)⟩
  have hct := node_cat i x y
  rw [← hus, ← hvs] at hct
  have H_hs := Box.mk hs
  have H_hs' := Box.mk hs'
  have H_hdl := Box.mk hdl
  have H_hdi := Box.mk hdi
  have H_hdo := Box.mk hdo
  have H_hdv := Box.mk hdv
  have H_hlr := Box.mk hlr
  have H_hus := Box.mk hus
  have H_hvs := Box.mk hvs
  have H_hxl := Box.mk hxl
  have H_hxo := Box.mk hxo
  have H_hyl := Box.mk hyl
  have H_hyo := Box.mk hyo
  have H_hx := Box.mk hx
  have H_hy := Box.mk hy
  have H_hbx := Box.mk hbx
  have H_hb3 := Box.mk hb3
  have H_hT := Box.mk hT
  have H_hct := Box.mk hct
  clear hs hs' hdl hdi hdo hdv hlr hus hvs hxl hxo hyl hyo hx hy hbx hb3 hT hct
  go_enter Tryd.func25, Tryd.ntmps25
  have hb0 := Below.refl w.heap.size w
  go_wp2_with fail
  refine wp_gen fun w1 hc1 => ?_
  have hb1 : Below w.heap.size w w1 := bchain (by repeat' (first | with_reducible exact hb0 | with_reducible refine Below.drew ?_ | with_reducible refine below_drewN ?_ _ | with_reducible refine Below.alloc ?_ (by have := hb0.size; first | (simp; done) | (simp; omega) | omega) _ | with_reducible refine Below.setCell ?_ (by first | (simp; done) | (simp; omega) | omega) _)) hc1
  have hI1 := (H_hbx.out w1 (hc1.mono (by simp))).1
  have hX1 := (H_hbx.out w1 (hc1.mono (by simp))).2.1
  have hY1 := (H_hbx.out w1 (hc1.mono (by simp))).2.2
  clear hc1
  refine wp_region_on_spec_tail [(1, [], fun _ => VOwn w1.heap.size 5 1 2 [.int .u8 1, .int .u8 i]), (3, [], fun _ => VOwn w1.heap.size 5 1 34 ([.int .u8 1, .int .u8 i] ++ us)), (5, [], fun _ => VRow 66 ((nodeB i x y).map (Value.int .u8))), (6, [], fun _ => VIs (.tuple #[.agg dv.toArray, .int .i64 0]))] [1, 3, 5, 6] [3, 5] [(1, []), (3, []), (5, []), (6, [])] 9 (by kernel_rfl) (by kernel_rfl) rfl (by kernel_rfl) rfl (by kernel_rfl) ⟨fun _ => VOwn.last, fun _ => VOwn.last, fun _ => VRow.last, fun _ => VIs.last, trivial⟩ ?_
  try simp only [List.take_succ_cons, List.take_zero, List.drop_succ_cons, List.drop_zero]
  refine wpSpec_quiet 1 (by kernel_rfl) (by kernel_rfl) ?_
  simp only [List.take_succ_cons, List.take_zero, List.drop_succ_cons, List.drop_zero]
  repeat (go_big_quiet_step (fail))
  refine wpQuiet_nil ?_
  show wpSpec _ _ _ _ _ _ _ _ _ _ _
  refine wpSpec_at [] (VOwn w1.heap.size 5 1 2 [.int .u8 1, .int .u8 i]) rfl (by first | rfl | (simp [viewS, Act.eval]; done)) rfl (by first | rfl | (simp [Region.wanted]; done)) ?_ rfl ?_
  · intro wq hq hfq
    clear hfq
    unfold Oper.gives; go_simp; exact ⟨(Below.refl _ _).alloc (Nat.le_refl _) _, _, _, rfl, OwnX.madeAt wq [.int .u8 1, .int .u8 i] _ _ 2 1 _ rfl hq.size (by simp [maxLen]) rfl⟩
  rintro x1 ⟨_, ⟨a1, c1, rfl, _⟩⟩
  simp only [Act.put, List.setIfInBounds_toArray, List.set_cons_succ, List.set_cons_zero]
  refine wpSpec_quiet 1 (by kernel_rfl) (by kernel_rfl) ?_
  simp only [List.take_succ_cons, List.take_zero, List.drop_succ_cons, List.drop_zero]
  repeat (go_big_quiet_step (fail))
  refine wpQuiet_nil ?_
  show wpSpec _ _ _ _ _ _ _ _ _ _ _
  refine wpSpec_atD [] (VOwn w1.heap.size 5 1 34 ([.int .u8 1, .int .u8 i] ++ us)) rfl (by first | rfl | (simp [viewS, Act.eval]; done)) rfl (by first | rfl | (simp [Region.wanted]; done)) ?_ rfl ?_
  · intro wq hq hfq
    have f1 := hfq 1 (by kernel_rfl)
    simp only [upd, Nat.beq, cond] at f1
    clear hfq
    obtain ⟨a1', c1', e1, k1⟩ := f1
    cases e1
    obtain ⟨a', c', w', hr, h2, h3, _⟩ := run_append_x (P := Tryd.prog) wq w1.heap.size 39 39 5 i0 (.int .u8 0) 1 1 Tryd.underlying39 hif hz0 hz1 hz2 rfl (by decide) (.slice a1 2 c1) 2 _ k1 (some ⟨w.heap.size, 0, none⟩) 32 32 us (by rw [H_hxl.out]) (hX1.later hq).cellsRow H_hxo.out (by unfold maxLen; omega) (by omega) hq.size
    exact gives_append _ _ _ _ rfl _ _ rfl rfl ⟨_, _, hr, below_grownX (Below.refl _ _) h3 hq.size (fun k hk => (k1.lt k hk).1), _, _, rfl, h2⟩
  rintro x3 ⟨_, ⟨a3, c3, rfl, _⟩⟩
  simp only [Act.put, List.setIfInBounds_toArray, List.set_cons_succ, List.set_cons_zero]
  refine wpSpec_quiet 1 (by kernel_rfl) (by kernel_rfl) ?_
  simp only [List.take_succ_cons, List.take_zero, List.drop_succ_cons, List.drop_zero]
  repeat (go_big_quiet_step (fail))
  refine wpQuiet_nil ?_
  show wpSpec _ _ _ _ _ _ _ _ _ _ _
  refine wpSpec_atD [] (VRow 66 ((nodeB i x y).map (Value.int .u8))) rfl (by first | rfl | (simp [viewS, Act.eval]; done)) rfl (by first | rfl | (simp [Region.wanted]; done)) ?_ rfl ?_
  · intro wq hq hfq
    have f3 := hfq 3 (by kernel_rfl)
    simp only [upd, Nat.beq, cond] at f3
    clear hfq
    obtain ⟨a3', c3', e3, k3⟩ := f3
    cases e3
    obtain ⟨a', c', w', hr, h2, h3, _⟩ := run_append_x (P := Tryd.prog) wq w1.heap.size 39 39 5 i0 (.int .u8 0) 1 1 Tryd.underlying39 hif hz0 hz1 hz2 rfl (by decide) (.slice a3 34 c3) 34 _ k3 (some ⟨w.heap.size + 1, 0, none⟩) 32 32 vs (by rw [H_hyl.out]) (hY1.later hq).cellsRow H_hyo.out (by unfold maxLen; omega) (by omega) hq.size
    rw [H_hct.out] at h2
    exact gives_append _ _ _ _ rfl _ _ rfl rfl ⟨_, _, hr, below_grownX (Below.refl _ _) h3 hq.size (fun k hk => (k3.lt k hk).1), _, _, rfl, h2.cellsAt⟩
  rintro x5 ⟨_, ⟨a5, c5, rfl, _⟩⟩
  simp only [Act.put, List.setIfInBounds_toArray, List.set_cons_succ, List.set_cons_zero]
  refine wpSpec_at [] (VIs (.tuple #[.agg dv.toArray, .int .i64 0])) rfl (by first | rfl | (simp [viewS, Act.eval]; done)) rfl (by first | rfl | (simp [Region.wanted]; done)) ?_ rfl ?_
  · intro wq hq hfq
    have f5 := hfq 5 (by kernel_rfl)
    simp only [upd, Nat.beq, cond] at f5
    clear hfq
    obtain ⟨a6', c6', e6, k6⟩ := f5
    cases e6
    refine gives_call 42 _ _ #[.slice a5 66 c5] rfl (by kernel_rfl) (by simp [Act.eval]) ((H_hs'.out _ _ _ k6 (H_hT.out.later (bchain hb1 hq))).mono ?_)
    rintro e w' ⟨rfl, hb⟩
    exact ⟨_, rfl, hb, rfl⟩
  rintro x6 ⟨_, ⟨rfl⟩⟩
  simp only [Act.put, List.setIfInBounds_toArray, List.set_cons_succ, List.set_cons_zero]
  refine wpSpec_quiet 2 (by kernel_rfl) (by kernel_rfl) ?_
  simp only [List.take_succ_cons, List.take_zero, List.drop_succ_cons, List.drop_zero]
  repeat (go_big_quiet_step (fail))
  refine wpQuiet_nil ?_
  show wpSpec _ _ _ _ _ _ _ _ _ _ _
  intro w2 hc2 hfq
  clear hfq
  have hb2 : Below w.heap.size w w2 := bchain (by repeat' (first | with_reducible exact hb1 | with_reducible refine Below.drew ?_ | with_reducible refine below_drewN ?_ _ | with_reducible refine Below.alloc ?_ (by have := hb1.size; first | (simp; done) | (simp; omega) | omega) _ | with_reducible refine Below.setCell ?_ (by first | (simp; done) | (simp; omega) | omega) _)) hc2
  have hI7 := hI1.later hc2
  refine wpList_store_blk rfl 24 _ _ rfl (w.heap.size + 1 + 1) (by rfl) 24 _ dv (by rfl) hI7 H_hlr.out H_hdi.out H_hdo.out ?_
  intro wz hBz hez
  have Hz := Box.mk hez
  clear hez
  go_wp2_with fail
  have hbz : Below w.heap.size w wz := Hz.out ▸ below_setCells (by omega) _ _ _ hb2
  refine bodyPost_ret (results_blk2 (by rfl) _ _ (w.heap.size + 1 + 1) 24 _ _ (.int .i64 0) rfl rfl hBz Tryd.underlying24 rfl H_hdi.out) rfl ⟨?_, hbz⟩
  rw [H_hdv.out]
  rfl

end Go.Proofs.YtfabcdpmnbeflaaDoor

/- The digest of increasing ids: of the program. -/
namespace Go.Proofs.YtfabcdpmnbeflaaDoor
set_option linter.unusedSimpArgs false
set_option linter.unusedVariables false
set_option linter.unnecessarySimpa false
open Go.RowKit
set_option maxRecDepth 100000

theorem zeros_id : (Tryd.prog.info? 24).map (·.size) = some (List.replicate 32 (Value.int .u8 0)).length := info32r
theorem IncL.zeros {l : List (List Int)} (h : IncL l) (i : Nat) : IncL (zerosL l i) := h.filter _
theorem IncL.ones {l : List (List Int)} (h : IncL l) (i : Nat) : IncL (onesL l i) := h.filter _
theorem rootP_id (l : List (List Int)) : IdIn (rootP l) := by
  rw [rootP]
  split
  · exact zeroIdIn
  · split
    · exact ofL_id _
    · split
      · exact ofL_id _
      · exact zeroIdIn
/-- What the cut of increasing ids is told. -/
structure CutF (l z o : List (List Int)) (N : Nat) : Prop where
  hN : N < 256
  cat : zerosL l N ++ onesL l N = l
  hz : zerosL l N = z
  ho : onesL l N = o
  zl : 0 < z.length
  ol : 0 < o.length
  sum : z.length + o.length = l.length
  iz : IncL z
  io : IncL o
  ap : apN (pc l 0) (pc l (l.length - 1)) = N
  root : rootP l = ofL (nodeB N (rootP z) (rootP o))
theorem IncL.cutF {l : List (List Int)} (h : IncL l) (h2 : 2 ≤ l.length) : CutF l (zerosL l (splitN l)) (onesL l (splitN l)) (splitN l) := by
  obtain ⟨h1, ha, hd⟩ := h.split h2
  exact ⟨h1.1, cut_cat h.inc h1.2.1, rfl, rfl, h1.zeros_pos.1, h1.zeros_pos.2, cut_lens _ _, h.zeros _, h.ones _, ha, rootP_two h h2⟩

set_option maxHeartbeats 1000000 in
theorem root_zero (a : Option Addr) (c : Nat) (w : World) :
    Calls Tryd.prog 32 #[.slice a 0 c] w fun e w' =>
      GivesId (rootP []) e ∧ Below w.heap.size w w' := by
  rw [rootP_nil]
  have hI := Blk.newA w w.heap.size _ 24 (List.replicate 32 (Value.int .u8 0)) rfl rfl
  have hzl : (List.replicate 32 (Value.int .u8 0)).length = (List.replicate 32 (Value.int .u8 0)).length := rfl
  have H_hI := Box.mk hI
  have H_hzl := Box.mk hzl
  clear hI hzl
  go_enter Tryd.func32, Tryd.ntmps32
  have hb0 := Below.refl w.heap.size w
  go_wp2_with (refine wpList_store_blk rfl 24 _ _ rfl w.heap.size (by rfl) 24 _ (List.replicate 32 (Value.int .u8 0)) (by rfl) H_hI.out H_hzl.out info32r oneCell_zeros ?_; intro wz hBz hez; have Hz := Box.mk hez; clear hez)
  go_wp2_with fail
  have hbz : Below w.heap.size w wz := Hz.out ▸ below_setCells (by omega) _ _ _ (hb0.alloc (Nat.le_refl _) _)
  refine bodyPost_ret (results_blk2 (by rfl) _ _ w.heap.size 24 _ _ (.int .i64 0) rfl rfl hBz Tryd.underlying24 rfl info32r) rfl ⟨?_, hbz⟩
  rfl
set_option maxHeartbeats 1000000 in
theorem root_one (x : List Int) (a : Option Addr) (c : Nat) (w : World) (h : IdsIn w a c [x]) (hT : TabK w) :
    Calls Tryd.prog 32 #[.slice a 1 c] w fun e w' =>
      GivesId (rootP [x]) e ∧ Below w.heap.size w w' := by
  rw [rootP_one]
  obtain ⟨b, o, rfl, hbl, hr⟩ := h.row (by simp)
  have hx : IdIn x := h.ids x (by simp)
  have hr0 := hr 0 (by simp)
  rw [Nat.zero_mul, Nat.add_zero] at hr0
  have hr0 : w.rangeAt b o (idC x) := hr0
  have hlf := fun W (hT : TabK W) => leaf_any x W hx hT
  unfold GivesId at hlf ⊢
  obtain ⟨us, hus⟩ : ∃ v, v = idC (x) := ⟨_, rfl⟩
  have husl := idC_len hx
  have husi := idC_info hx
  have huso := idC_one (x)
  rw [← hus] at husl husi huso
  have husr : us.length = (List.replicate 32 (Value.int .u8 0)).length := by rw [husl]; rfl
  obtain ⟨ds, hds⟩ : ∃ v, v = idC (ofL (0 :: x)) := ⟨_, rfl⟩
  have hdsl := idC_len (ofL_id (0 :: x))
  have hdsi := idC_info (ofL_id (0 :: x))
  have hdso := idC_one (ofL (0 :: x))
  rw [← hds] at hdsl hdsi hdso
  have hdsr : ds.length = (List.replicate 32 (Value.int .u8 0)).length := by rw [hdsl]; rfl
  simp only [← hus, ← hds] at hlf hr0
  rw [← hds]
  have hr1 : (w.alloc (.cells (List.replicate 32 (Value.int .u8 0)).toArray 24)).rangeAt b o us := rangeAt_later hr0 ((Below.refl _ _).alloc (Nat.le_refl _) _)
  have hI0 := Blk.newA w w.heap.size _ 24 (List.replicate 32 (Value.int .u8 0)) rfl rfl
  have H_hus := Box.mk hus
  have H_husl := Box.mk husl
  have H_husi := Box.mk husi
  have H_huso := Box.mk huso
  have H_husr := Box.mk husr
  have H_hds := Box.mk hds
  have H_hdsl := Box.mk hdsl
  have H_hdsi := Box.mk hdsi
  have H_hdso := Box.mk hdso
  have H_hdsr := Box.mk hdsr
  have H_hlf := Box.mk hlf
  have H_hT := Box.mk hT
  have H_h := Box.mk h
  have H_hr0 := Box.mk hr0
  have H_hr := Box.mk hr
  have H_hx := Box.mk hx
  clear hus husl husi huso husr hds hdsl hdsi hdso hdsr hlf hT h hr0 hr hx
  go_enter Tryd.func32, Tryd.ntmps32
  have hb0 := Below.refl w.heap.size w
  go_wp2_with (refine wpList_load_mid rfl 24 _ rfl b o (by rfl) us _ hr1 Tryd.underlying24 rfl H_husi.out ?_)
  with_reducible refine (H_hlf.out _ (H_hT.out.later ((Below.refl _ _).alloc (Nat.le_refl _) _))).mono ?_
  rintro e w1 ⟨rfl, hc1⟩
  have hI1 := hI0.later hc1
  have hb1 : Below w.heap.size w w1 := bchain (by repeat' (first | with_reducible exact hb0 | with_reducible refine Below.drew ?_ | with_reducible refine below_drewN ?_ _ | with_reducible refine Below.alloc ?_ (by have := hb0.size; first | (simp; done) | (simp; omega) | omega) _ | with_reducible refine Below.setCell ?_ (by first | (simp; done) | (simp; omega) | omega) _)) hc1
  clear hc1 hI0 hr1
  go_wp2_with (refine wpList_store_blk rfl 24 _ _ rfl w.heap.size (by rfl) 24 _ ds (by rfl) hI1 H_hdsr.out H_hdsi.out H_hdso.out ?_; intro wz hBz hez; have Hz := Box.mk hez; clear hez)
  go_wp2_with fail
  have hbz : Below w.heap.size w wz := Hz.out ▸ below_setCells (by omega) _ _ _ hb1
  exact bodyPost_ret (results_blk2 (by rfl) _ _ w.heap.size 24 _ _ (.int .i64 0) rfl rfl hBz Tryd.underlying24 rfl H_hdsi.out) rfl ⟨rfl, hbz⟩
/-- What root hands back, of a list. -/
def RootOk (l : List (List Int)) : Prop := ∀ (a : Option Addr) (c : Nat) (w : World), IdsIn w a c l → TabK w →
    Calls Tryd.prog 32 #[.slice a l.length c] w fun e w' => GivesId (rootP l) e ∧ Below w.heap.size w w'
set_option maxHeartbeats 4000000 in
theorem root_two (l z o : List (List Int)) (N : Nat) (hF : CutF l z o N) (a : Option Addr) (n c : Nat) (w : World) (h : IdsIn w a c l) (hn : n = l.length) (hb : n ≤ 1000) (hT : TabK w) (hz : RootOk z) (ho : RootOk o) :
    Calls Tryd.prog 32 #[.slice a n c] w fun e w' =>
      GivesId (rootP l) e ∧ Below w.heap.size w w' := by
  obtain ⟨hN, cat, ez, eo, zl, ol, sum, iz, io, ap, root⟩ := hF
  rw [root]
  obtain ⟨k, hk⟩ : ∃ k, l.length = k + 1 := ⟨l.length - 1, by omega⟩
  obtain ⟨b, of, rfl, hbl, hr⟩ := h.row (by omega)
  have hx : IdIn (pc l 0) := h.ids _ (pc_mem (by omega))
  have hy : IdIn (pc l k) := h.ids _ (pc_mem (by omega))
  have hr0 := hr 0 (by omega)
  have hrk := hr k (by omega)
  rw [Nat.zero_mul, Nat.add_zero] at hr0
  rw [show l.length - 1 = k from by omega] at ap
  have hap := fun W => apart_any (pc l 0) (pc l k) W hx hy
  rw [ap] at hap
  have hcut := fun W (hI : IdsIn W (some ⟨b, of, none⟩) c l) => cut_any l (some ⟨b, of, none⟩) n c N W hI hn hb hN cat
  rw [ez, eo] at hcut
  have hdx := rootP_id z
  have hdy := rootP_id o
  have hnd := fun W (hT : TabK W) => node_any N (rootP z) (rootP o) W hdx hdy hN hT
  unfold RootOk GivesId at hz ho
  unfold GivesId at hnd ⊢
  obtain ⟨us, hus⟩ : ∃ v, v = idC (pc l 0) := ⟨_, rfl⟩
  have husl := idC_len hx
  have husi := idC_info hx
  have huso := idC_one (pc l 0)
  rw [← hus] at husl husi huso
  have husr : us.length = (List.replicate 32 (Value.int .u8 0)).length := by rw [husl]; rfl
  obtain ⟨vs, hvs⟩ : ∃ v, v = idC (pc l k) := ⟨_, rfl⟩
  have hvsl := idC_len hy
  have hvsi := idC_info hy
  have hvso := idC_one (pc l k)
  rw [← hvs] at hvsl hvsi hvso
  have hvsr : vs.length = (List.replicate 32 (Value.int .u8 0)).length := by rw [hvsl]; rfl
  obtain ⟨xs, hxs⟩ : ∃ v, v = idC (rootP z) := ⟨_, rfl⟩
  have hxsl := idC_len hdx
  have hxsi := idC_info hdx
  have hxso := idC_one (rootP z)
  rw [← hxs] at hxsl hxsi hxso
  have hxsr : xs.length = (List.replicate 32 (Value.int .u8 0)).length := by rw [hxsl]; rfl
  obtain ⟨ys, hys⟩ : ∃ v, v = idC (rootP o) := ⟨_, rfl⟩
  have hysl := idC_len hdy
  have hysi := idC_info hdy
  have hyso := idC_one (rootP o)
  rw [← hys] at hysl hysi hyso
  have hysr : ys.length = (List.replicate 32 (Value.int .u8 0)).length := by rw [hysl]; rfl
  obtain ⟨ds, hds⟩ : ∃ v, v = idC (ofL (nodeB N (rootP z) (rootP o))) := ⟨_, rfl⟩
  have hdsl := idC_len (ofL_id (nodeB N (rootP z) (rootP o)))
  have hdsi := idC_info (ofL_id (nodeB N (rootP z) (rootP o)))
  have hdso := idC_one (ofL (nodeB N (rootP z) (rootP o)))
  rw [← hds] at hdsl hdsi hdso
  have hdsr : ds.length = (List.replicate 32 (Value.int .u8 0)).length := by rw [hdsl]; rfl
  simp only [← hus, ← hvs] at hap hr0 hrk
  simp only [← hxs, ← hys, ← hds] at hnd hz ho
  rw [← hds]
  have hnk : n = k + 1 := by omega
  have hnkI : (n : Int) = (k : Int) + 1 := by omega
  have hk1 : (n : Int) - 1 = (k : Int) := by omega
  have hkI : (k : Int) ≤ 1000 := by omega
  have hkn : (k : Int) < (n : Int) := by omega
  have hn0 : ¬ (n : Int) = 0 := by omega
  have hn1 : ¬ (n : Int) = 1 := by omega
  have hI0 := Blk.newA w w.heap.size _ 24 (List.replicate 32 (Value.int .u8 0)) rfl rfl
  have b1 : Below w.heap.size w (w.alloc (.cells (List.replicate 32 (Value.int .u8 0)).toArray 24)) := (Below.refl _ _).alloc (Nat.le_refl _) _
  have hle1 := h.cap
  have H_hus := Box.mk hus
  have H_husl := Box.mk husl
  have H_husi := Box.mk husi
  have H_huso := Box.mk huso
  have H_husr := Box.mk husr
  have H_hvs := Box.mk hvs
  have H_hvsl := Box.mk hvsl
  have H_hvsi := Box.mk hvsi
  have H_hvso := Box.mk hvso
  have H_hvsr := Box.mk hvsr
  have H_hxs := Box.mk hxs
  have H_hxsl := Box.mk hxsl
  have H_hxsi := Box.mk hxsi
  have H_hxso := Box.mk hxso
  have H_hxsr := Box.mk hxsr
  have H_hys := Box.mk hys
  have H_hysl := Box.mk hysl
  have H_hysi := Box.mk hysi
  have H_hyso := Box.mk hyso
  have H_hysr := Box.mk hysr
  have H_hds := Box.mk hds
  have H_hdsl := Box.mk hdsl
  have H_hdsi := Box.mk hdsi
  have H_hdso := Box.mk hdso
  have H_hdsr := Box.mk hdsr
  have H_hap := Box.mk hap
  have H_hcut := Box.mk hcut
  have H_hnd := Box.mk hnd
  have H_hz := Box.mk hz
  have H_ho := Box.mk ho
  have H_hT := Box.mk hT
  have H_h := Box.mk h
  have H_hr := Box.mk hr
  have H_hx := Box.mk hx
  have H_hy := Box.mk hy
  have H_hn := Box.mk hn
  have H_hk := Box.mk hk
  have H_cat := Box.mk cat
  have H_ez := Box.mk ez
  have H_eo := Box.mk eo
  have H_zl := Box.mk zl
  have H_ol := Box.mk ol
  have H_sum := Box.mk sum
  have H_iz := Box.mk iz
  have H_io := Box.mk io
  have H_ap := Box.mk ap
  have H_root := Box.mk root
  have H_hdx := Box.mk hdx
  have H_hdy := Box.mk hdy
  have H_hnk := Box.mk hnk
  have H_hle1 := Box.mk hle1
  clear hus husl husi huso husr hvs hvsl hvsi hvso hvsr hxs hxsl hxsi hxso hxsr hys hysl hysi hyso hysr hds hdsl hdsi hdso hdsr hap hcut hnd hz ho hT h hr hx hy hn hk cat ez eo zl ol sum iz io ap root hdx hdy hnk hle1
  clear hb hnkI
  go_enter Tryd.func32, Tryd.ntmps32
  have hb0 := Below.refl w.heap.size w
  go_wp2_with fail
  refine wp_gen fun w1 hc1 => ?_
  have hb1 : Below w.heap.size w w1 := bchain (by repeat' (first | with_reducible exact hb0 | with_reducible refine Below.drew ?_ | with_reducible refine below_drewN ?_ _ | with_reducible refine Below.alloc ?_ (by have := hb0.size; first | (simp; done) | (simp; omega) | omega) _ | with_reducible refine Below.setCell ?_ (by first | (simp; done) | (simp; omega) | omega) _)) hc1
  have hb0' := Box.mk hc1
  have hI1 := hI0.later hc1
  have hr1 := rangeAt_later hr0 hb1
  have hr2 := rangeAt_later hrk hb1
  clear hc1
  refine wp_region_on (by kernel_rfl) (by kernel_rfl) ?_
  repeat (first | ((refine wpQuiet_load_mid (by first | rfl | (simp [Region.wanted]; done)) 24 _ rfl b of (by rfl) us _ hr1 Tryd.underlying24 rfl H_husi.out ?_); simp only [Act.put, List.setIfInBounds_toArray, List.set_cons_succ, List.set_cons_zero]) | ((refine wpQuiet_load_mid (by first | rfl | (simp [Region.wanted]; done)) 24 _ rfl b (of + k * 32) (by rfl) vs _ hr2 Tryd.underlying24 rfl H_hvsi.out ?_); simp only [Act.put, List.setIfInBounds_toArray, List.set_cons_succ, List.set_cons_zero]) | (go_big_quiet_step ((first | (go_at_call 34; with_reducible exact calls_on (H_hap.out _))))))
  refine wpQuiet_nil ?_
  intro w2 hc2
  have hb2 : Below w.heap.size w w2 := bchain (by repeat' (first | with_reducible exact hb1 | with_reducible refine Below.drew ?_ | with_reducible refine below_drewN ?_ _ | with_reducible refine Below.alloc ?_ (by have := hb1.size; first | (simp; done) | (simp; omega) | omega) _ | with_reducible refine Below.setCell ?_ (by first | (simp; done) | (simp; omega) | omega) _)) hc2
  have hI2 := hI1.later hc2
  clear hc2 hI1 hr1 hr2
  go_wp2_with fail
  with_reducible refine (H_hcut.out _ (H_h.out.later hb2)).mono ?_
  rintro e w3 ⟨⟨a1, a2, c2, rfl, hZ, hO⟩, hc3⟩
  have hI3 := hI2.later hc3
  have hb3 : Below w.heap.size w w3 := bchain (by repeat' (first | with_reducible exact hb2 | with_reducible refine Below.drew ?_ | with_reducible refine below_drewN ?_ _ | with_reducible refine Below.alloc ?_ (by have := hb2.size; first | (simp; done) | (simp; omega) | omega) _ | with_reducible refine Below.setCell ?_ (by first | (simp; done) | (simp; omega) | omega) _)) hc3
  clear hc3 hI2
  go_wp2_with fail
  with_reducible refine (H_hz.out _ _ _ hZ (H_hT.out.later hb3)).mono ?_
  rintro e w4 ⟨rfl, hc4⟩
  have hI4 := hI3.later hc4
  have hO4 := hO.later hc4
  have hb4 : Below w.heap.size w w4 := bchain (by repeat' (first | with_reducible exact hb3 | with_reducible refine Below.drew ?_ | with_reducible refine below_drewN ?_ _ | with_reducible refine Below.alloc ?_ (by have := hb3.size; first | (simp; done) | (simp; omega) | omega) _ | with_reducible refine Below.setCell ?_ (by first | (simp; done) | (simp; omega) | omega) _)) hc4
  clear hc4 hI3 hZ hO
  have hN4 := Blk.newA w4 w4.heap.size _ 24 (List.replicate 32 (Value.int .u8 0)) rfl rfl
  go_upto_region 9 with (refine wpList_store_blk rfl 24 _ _ rfl w4.heap.size (by rfl) 24 _ xs (by rfl) hN4 H_hxsr.out H_hxsi.out H_hxso.out ?_; intro w5 hX5 he5; have H5 := Box.mk he5; clear he5)
  have hc5 : Below w4.heap.size w4 w5 := H5.out ▸ below_setCells (Nat.le_refl _) _ _ _ ((Below.refl _ _).alloc (Nat.le_refl _) _)
  have hI5 := hI4.later hc5
  have hO5 := hO4.later hc5
  have hb5 : Below w.heap.size w w5 := bchain (by repeat' (first | with_reducible exact hb4 | with_reducible refine Below.drew ?_ | with_reducible refine below_drewN ?_ _ | with_reducible refine Below.alloc ?_ (by have := hb4.size; first | (simp; done) | (simp; omega) | omega) _ | with_reducible refine Below.setCell ?_ (by first | (simp; done) | (simp; omega) | omega) _)) hc5
  clear hc5 hI4 hO4 hN4 H5
  go_wp2_with fail
  with_reducible refine (H_ho.out _ _ _ hO5 (H_hT.out.later hb5)).mono ?_
  rintro e w6 ⟨rfl, hc6⟩
  have hI6 := hI5.later hc6
  have hX6 := hX5.later hc6
  have hb6 : Below w.heap.size w w6 := bchain (by repeat' (first | with_reducible exact hb5 | with_reducible refine Below.drew ?_ | with_reducible refine below_drewN ?_ _ | with_reducible refine Below.alloc ?_ (by have := hb5.size; first | (simp; done) | (simp; omega) | omega) _ | with_reducible refine Below.setCell ?_ (by first | (simp; done) | (simp; omega) | omega) _)) hc6
  clear hc6 hI5 hX5 hO5
  have hN6 := Blk.newA w6 w6.heap.size _ 24 (List.replicate 32 (Value.int .u8 0)) rfl rfl
  go_upto_region 12 with (refine wpList_store_blk rfl 24 _ _ rfl w6.heap.size (by rfl) 24 _ ys (by rfl) hN6 H_hysr.out H_hysi.out H_hyso.out ?_; intro w7 hY7 he7; have H7 := Box.mk he7; clear he7)
  have hc7 : Below w6.heap.size w6 w7 := H7.out ▸ below_setCells (Nat.le_refl _) _ _ _ ((Below.refl _ _).alloc (Nat.le_refl _) _)
  have hI7 := hI6.later hc7
  have hX7 := hX6.later hc7
  have hb7 : Below w.heap.size w w7 := bchain (by repeat' (first | with_reducible exact hb6 | with_reducible refine Below.drew ?_ | with_reducible refine below_drewN ?_ _ | with_reducible refine Below.alloc ?_ (by have := hb6.size; first | (simp; done) | (simp; omega) | omega) _ | with_reducible refine Below.setCell ?_ (by first | (simp; done) | (simp; omega) | omega) _)) hc7
  clear hc7 hI6 hX6 hN6 H7
  go_wp2_with (first | (refine wpList_load_blk rfl 24 _ rfl w4.heap.size (by rfl) 24 xs _ hX7 Tryd.underlying24 rfl H_hxsi.out ?_) | (refine wpList_load_blk rfl 24 _ rfl w6.heap.size (by rfl) 24 ys _ hY7 Tryd.underlying24 rfl H_hysi.out ?_))
  with_reducible refine (H_hnd.out _ (H_hT.out.later hb7)).mono ?_
  rintro e w8 ⟨rfl, hc8⟩
  have hI8 := hI7.later hc8
  have hb8 : Below w.heap.size w w8 := bchain (by repeat' (first | with_reducible exact hb7 | with_reducible refine Below.drew ?_ | with_reducible refine below_drewN ?_ _ | with_reducible refine Below.alloc ?_ (by have := hb7.size; first | (simp; done) | (simp; omega) | omega) _ | with_reducible refine Below.setCell ?_ (by first | (simp; done) | (simp; omega) | omega) _)) hc8
  clear hc8 hI7 hX7 hY7
  go_wp2_with (refine wpList_store_blk rfl 24 _ _ rfl w.heap.size (by rfl) 24 _ ds (by rfl) hI8 H_hdsr.out H_hdsi.out H_hdso.out ?_; intro wz hBz hez; have Hz := Box.mk hez; clear hez)
  go_wp2_with fail
  have hbz : Below w.heap.size w wz := Hz.out ▸ below_setCells (by omega) _ _ _ hb8
  exact bodyPost_ret (results_blk2 (by rfl) _ _ w.heap.size 24 _ _ (.int .i64 0) rfl rfl hBz Tryd.underlying24 rfl H_hdsi.out) rfl ⟨rfl, hbz⟩

theorem root_ok : ∀ (m : Nat) (l : List (List Int)), l.length ≤ m → m ≤ 1000 → IncL l → RootOk l := by
  intro m
  induction m with
  | zero =>
    intro l hm hb hinc a c w h hT
    obtain rfl : l = [] := List.eq_nil_of_length_eq_zero (by omega)
    exact root_zero a c w
  | succ m ih =>
    intro l hm hb hinc a c w h hT
    match l, hm, hinc, h with
    | [], _, _, _ => exact root_zero a c w
    | [x], _, _, h => exact root_one x a c w h hT
    | x :: y :: t, hm, hinc, h =>
      have hF := hinc.cutF (by simp)
      have := hF.sum
      have := hF.zl
      have := hF.ol
      exact root_two _ _ _ _ hF a _ c w h rfl (by omega) hT (ih _ (by omega) (by omega) hF.iz) (ih _ (by omega) (by omega) hF.io)

end Go.Proofs.YtfabcdpmnbeflaaDoor

/- The digest of increasing ids: of the reference. -/
namespace Go.Proofs.YtfabcdpmnbeflaaDoor
set_option linter.unusedSimpArgs false
set_option linter.unusedVariables false
set_option linter.unnecessarySimpa false
open Go.RowKit
set_option maxRecDepth 100000

theorem FreshIds.idsIn {w w' : World} {l : List (List Int)} {e : Ending} (h : FreshIds w w' l e) (hl : ∀ x ∈ l, IdIn x) : ∃ a c, e = .returned (.slice a l.length c) ∧ IdsIn w' a c l := by
  obtain ⟨a, c, he, ho⟩ := h
  obtain ⟨_, _, hv, h1, h2⟩ := ho.cells
  cases hv
  exact ⟨a, c, he, h2, hl, h1⟩
def ROfOk (l : List (List Int)) : Prop := ∀ (a : Option Addr) (c : Nat) (w : World), IdsIn w a c l →
    Calls Tryd.prog 33 #[.slice a l.length c] w fun e w' => e = .returned (.agg (idC (rootP l)).toArray) ∧ Below w.heap.size w w'
set_option maxHeartbeats 1000000 in
theorem rof_zero (a : Option Addr) (c : Nat) (w : World) :
    Calls Tryd.prog 33 #[.slice a 0 c] w fun e w' =>
      e = .returned (.agg (idC (rootP [])).toArray) ∧ Below w.heap.size w w' := by
  rw [rootP_nil, idC_zero]
  obtain ⟨V, hV⟩ : ∃ V, Ending.returned (.agg (List.replicate 32 (Value.int .u8 0)).toArray) = V := ⟨_, rfl⟩
  rw [hV]
  have hI := Blk.newA w w.heap.size _ 24 (List.replicate 32 (Value.int .u8 0)) rfl rfl
  have hzl : (List.replicate 32 (Value.int .u8 0)).length = (List.replicate 32 (Value.int .u8 0)).length := rfl
  have H_hI := Box.mk hI
  have H_hzl := Box.mk hzl
  have H_hV := Box.mk hV
  clear hI hzl hV
  go_enter Tryd.func33, Tryd.ntmps33
  have hb0 := Below.refl w.heap.size w
  go_wp2_with (refine wpList_store_blk rfl 24 _ _ rfl w.heap.size (by rfl) 24 _ (List.replicate 32 (Value.int .u8 0)) (by rfl) H_hI.out H_hzl.out info32r oneCell_zeros ?_; intro wz hBz hez; have Hz := Box.mk hez; clear hez)
  go_wp2_with fail
  have hbz : Below w.heap.size w wz := Hz.out ▸ below_setCells (by omega) _ _ _ (hb0.alloc (Nat.le_refl _) _)
  refine bodyPost_ret (results_blk (by rfl) _ _ w.heap.size 24 _ _ rfl hBz Tryd.underlying24 rfl info32r) rfl ⟨?_, hbz⟩
  exact H_hV.out
set_option maxHeartbeats 1000000 in
theorem rof_one (x : List Int) (a : Option Addr) (c : Nat) (w : World) (h : IdsIn w a c [x]) :
    Calls Tryd.prog 33 #[.slice a 1 c] w fun e w' =>
      e = .returned (.agg (idC (rootP [x])).toArray) ∧ Below w.heap.size w w' := by
  rw [rootP_one]
  obtain ⟨b, o, rfl, hbl, hr⟩ := h.row (by simp)
  have hx : IdIn x := h.ids x (by simp)
  have hr0 := hr 0 (by simp)
  rw [Nat.zero_mul, Nat.add_zero] at hr0
  have hr0 : w.rangeAt b o (idC x) := hr0
  have hlf := fun W => rleaf_any x W hx
  obtain ⟨us, hus⟩ : ∃ v, v = idC (x) := ⟨_, rfl⟩
  have husl := idC_len hx
  have husi := idC_info hx
  have huso := idC_one (x)
  rw [← hus] at husl husi huso
  have husr : us.length = (List.replicate 32 (Value.int .u8 0)).length := by rw [husl]; rfl
  obtain ⟨ds, hds⟩ : ∃ v, v = idC (ofL (0 :: x)) := ⟨_, rfl⟩
  have hdsl := idC_len (ofL_id (0 :: x))
  have hdsi := idC_info (ofL_id (0 :: x))
  have hdso := idC_one (ofL (0 :: x))
  rw [← hds] at hdsl hdsi hdso
  have hdsr : ds.length = (List.replicate 32 (Value.int .u8 0)).length := by rw [hdsl]; rfl
  simp only [← hus, ← hds] at hlf hr0
  rw [← hds]
  have hr1 : (w.alloc (.cells (List.replicate 32 (Value.int .u8 0)).toArray 24)).rangeAt b o us := rangeAt_later hr0 ((Below.refl _ _).alloc (Nat.le_refl _) _)
  have hI0 := Blk.newA w w.heap.size _ 24 (List.replicate 32 (Value.int .u8 0)) rfl rfl
  have H_hus := Box.mk hus
  have H_husl := Box.mk husl
  have H_husi := Box.mk husi
  have H_huso := Box.mk huso
  have H_husr := Box.mk husr
  have H_hds := Box.mk hds
  have H_hdsl := Box.mk hdsl
  have H_hdsi := Box.mk hdsi
  have H_hdso := Box.mk hdso
  have H_hdsr := Box.mk hdsr
  have H_hlf := Box.mk hlf
  have H_h := Box.mk h
  have H_hr0 := Box.mk hr0
  have H_hr := Box.mk hr
  have H_hx := Box.mk hx
  clear hus husl husi huso husr hds hdsl hdsi hdso hdsr hlf h hr0 hr hx
  go_enter Tryd.func33, Tryd.ntmps33
  have hb0 := Below.refl w.heap.size w
  go_wp2_with (refine wpList_load_mid rfl 24 _ rfl b o (by rfl) us _ hr1 Tryd.underlying24 rfl H_husi.out ?_)
  with_reducible refine (H_hlf.out _).mono ?_
  rintro e w1 ⟨rfl, hc1⟩
  have hI1 := hI0.later hc1
  have hb1 : Below w.heap.size w w1 := bchain (by repeat' (first | with_reducible exact hb0 | with_reducible refine Below.drew ?_ | with_reducible refine below_drewN ?_ _ | with_reducible refine Below.alloc ?_ (by have := hb0.size; first | (simp; done) | (simp; omega) | omega) _ | with_reducible refine Below.setCell ?_ (by first | (simp; done) | (simp; omega) | omega) _)) hc1
  clear hc1 hI0 hr1
  go_wp2_with (refine wpList_store_blk rfl 24 _ _ rfl w.heap.size (by rfl) 24 _ ds (by rfl) hI1 H_hdsr.out H_hdsi.out H_hdso.out ?_; intro wz hBz hez; have Hz := Box.mk hez; clear hez)
  go_wp2_with fail
  have hbz : Below w.heap.size w wz := Hz.out ▸ below_setCells (by omega) _ _ _ hb1
  exact bodyPost_ret (results_blk (by rfl) _ _ w.heap.size 24 _ _ rfl hBz Tryd.underlying24 rfl H_hdsi.out) rfl ⟨rfl, hbz⟩
set_option maxHeartbeats 4000000 in
theorem rof_two (l z o : List (List Int)) (N : Nat) (hF : CutF l z o N) (hs : IsSplit l N) (a : Option Addr) (n c : Nat) (w : World) (h : IdsIn w a c l) (hn : n = l.length) (hb : n ≤ 1000) (hz : ROfOk z) (ho : ROfOk o) :
    Calls Tryd.prog 33 #[.slice a n c] w fun e w' =>
      e = .returned (.agg (idC (rootP l)).toArray) ∧ Below w.heap.size w w' := by
  obtain ⟨hN, cat, ez, eo, zl, ol, sum, iz, io, ap, root⟩ := hF
  rw [root]
  have hsp := fun W (hI : IdsIn W a c l) => rsplit_any l a n c N W hI hn hb hs
  have hcz := fun W (hI : IdsIn W a c l) => rcut_any l a n c N false W hI hn hb hN
  have hco := fun W (hI : IdsIn W a c l) => rcut_any l a n c N true W hI hn hb hN
  rw [cutL_zeros, ez] at hcz
  rw [cutL_ones, eo] at hco
  have hdx := rootP_id z
  have hdy := rootP_id o
  have hnd := fun W => rnode_any N (rootP z) (rootP o) W hdx hdy hN
  unfold ROfOk at hz ho
  obtain ⟨xs, hxs⟩ : ∃ v, v = idC (rootP z) := ⟨_, rfl⟩
  have hxsl := idC_len hdx
  have hxsi := idC_info hdx
  have hxso := idC_one (rootP z)
  rw [← hxs] at hxsl hxsi hxso
  have hxsr : xs.length = (List.replicate 32 (Value.int .u8 0)).length := by rw [hxsl]; rfl
  obtain ⟨ys, hys⟩ : ∃ v, v = idC (rootP o) := ⟨_, rfl⟩
  have hysl := idC_len hdy
  have hysi := idC_info hdy
  have hyso := idC_one (rootP o)
  rw [← hys] at hysl hysi hyso
  have hysr : ys.length = (List.replicate 32 (Value.int .u8 0)).length := by rw [hysl]; rfl
  obtain ⟨ds, hds⟩ : ∃ v, v = idC (ofL (nodeB N (rootP z) (rootP o))) := ⟨_, rfl⟩
  have hdsl := idC_len (ofL_id (nodeB N (rootP z) (rootP o)))
  have hdsi := idC_info (ofL_id (nodeB N (rootP z) (rootP o)))
  have hdso := idC_one (ofL (nodeB N (rootP z) (rootP o)))
  rw [← hds] at hdsl hdsi hdso
  have hdsr : ds.length = (List.replicate 32 (Value.int .u8 0)).length := by rw [hdsl]; rfl
  simp only [← hxs, ← hys, ← hds] at hnd hz ho
  rw [← hds]
  have hn0 : ¬ (n : Int) = 0 := by omega
  have hn1 : ¬ (n : Int) = 1 := by omega
  have hI0 := Blk.newA w w.heap.size _ 24 (List.replicate 32 (Value.int .u8 0)) rfl rfl
  have b1 : Below w.heap.size w (w.alloc (.cells (List.replicate 32 (Value.int .u8 0)).toArray 24)) := (Below.refl _ _).alloc (Nat.le_refl _) _
  have h1 := h.later b1
  have H_hxs := Box.mk hxs
  have H_hxsl := Box.mk hxsl
  have H_hxsi := Box.mk hxsi
  have H_hxso := Box.mk hxso
  have H_hxsr := Box.mk hxsr
  have H_hys := Box.mk hys
  have H_hysl := Box.mk hysl
  have H_hysi := Box.mk hysi
  have H_hyso := Box.mk hyso
  have H_hysr := Box.mk hysr
  have H_hds := Box.mk hds
  have H_hdsl := Box.mk hdsl
  have H_hdsi := Box.mk hdsi
  have H_hdso := Box.mk hdso
  have H_hdsr := Box.mk hdsr
  have H_hsp := Box.mk hsp
  have H_hcz := Box.mk hcz
  have H_hco := Box.mk hco
  have H_hnd := Box.mk hnd
  have H_hz := Box.mk hz
  have H_ho := Box.mk ho
  have H_h := Box.mk h
  have H_hn := Box.mk hn
  have H_cat := Box.mk cat
  have H_ez := Box.mk ez
  have H_eo := Box.mk eo
  have H_zl := Box.mk zl
  have H_ol := Box.mk ol
  have H_sum := Box.mk sum
  have H_iz := Box.mk iz
  have H_io := Box.mk io
  have H_ap := Box.mk ap
  have H_root := Box.mk root
  have H_hdx := Box.mk hdx
  have H_hdy := Box.mk hdy
  have H_hs := Box.mk hs
  have H_b1 := Box.mk b1
  have H_h1 := Box.mk h1
  clear hxs hxsl hxsi hxso hxsr hys hysl hysi hyso hysr hds hdsl hdsi hdso hdsr hsp hcz hco hnd hz ho h hn cat ez eo zl ol sum iz io ap root hdx hdy hs b1 h1
  clear hb
  go_enter Tryd.func33, Tryd.ntmps33
  have hb0 := Below.refl w.heap.size w
  go_wp2_with fail
  with_reducible refine (H_hsp.out _ (H_h.out.later ((Below.refl _ _).alloc (Nat.le_refl _) _))).mono ?_
  rintro e w1 ⟨rfl, hc1⟩
  have hI1 := hI0.later hc1
  have hb1 : Below w.heap.size w w1 := bchain (by repeat' (first | with_reducible exact hb0 | with_reducible refine Below.drew ?_ | with_reducible refine below_drewN ?_ _ | with_reducible refine Below.alloc ?_ (by have := hb0.size; first | (simp; done) | (simp; omega) | omega) _ | with_reducible refine Below.setCell ?_ (by first | (simp; done) | (simp; omega) | omega) _)) hc1
  clear hc1 hI0
  go_wp2_with fail
  with_reducible refine (H_hcz.out _ (H_h.out.later hb1)).mono ?_
  rintro e w2 ⟨hfr, hc2⟩
  obtain ⟨a2, c2, rfl, hZ⟩ := hfr.idsIn H_iz.out.ids
  have hI2 := hI1.later hc2
  have hb2 : Below w.heap.size w w2 := bchain (by repeat' (first | with_reducible exact hb1 | with_reducible refine Below.drew ?_ | with_reducible refine below_drewN ?_ _ | with_reducible refine Below.alloc ?_ (by have := hb1.size; first | (simp; done) | (simp; omega) | omega) _ | with_reducible refine Below.setCell ?_ (by first | (simp; done) | (simp; omega) | omega) _)) hc2
  clear hc2 hI1 hfr
  go_wp2_with fail
  with_reducible refine (H_hz.out _ _ _ hZ).mono ?_
  rintro e w3 ⟨rfl, hc3⟩
  have hI3 := hI2.later hc3
  have hb3 : Below w.heap.size w w3 := bchain (by repeat' (first | with_reducible exact hb2 | with_reducible refine Below.drew ?_ | with_reducible refine below_drewN ?_ _ | with_reducible refine Below.alloc ?_ (by have := hb2.size; first | (simp; done) | (simp; omega) | omega) _ | with_reducible refine Below.setCell ?_ (by first | (simp; done) | (simp; omega) | omega) _)) hc3
  clear hc3 hI2 hZ
  go_wp2_with fail
  with_reducible refine (H_hco.out _ (H_h.out.later hb3)).mono ?_
  rintro e w4 ⟨hfr, hc4⟩
  obtain ⟨a4, c4, rfl, hO⟩ := hfr.idsIn H_io.out.ids
  have hI4 := hI3.later hc4
  have hb4 : Below w.heap.size w w4 := bchain (by repeat' (first | with_reducible exact hb3 | with_reducible refine Below.drew ?_ | with_reducible refine below_drewN ?_ _ | with_reducible refine Below.alloc ?_ (by have := hb3.size; first | (simp; done) | (simp; omega) | omega) _ | with_reducible refine Below.setCell ?_ (by first | (simp; done) | (simp; omega) | omega) _)) hc4
  clear hc4 hI3 hfr
  go_wp2_with fail
  with_reducible refine (H_ho.out _ _ _ hO).mono ?_
  rintro e w5 ⟨rfl, hc5⟩
  have hI5 := hI4.later hc5
  have hb5 : Below w.heap.size w w5 := bchain (by repeat' (first | with_reducible exact hb4 | with_reducible refine Below.drew ?_ | with_reducible refine below_drewN ?_ _ | with_reducible refine Below.alloc ?_ (by have := hb4.size; first | (simp; done) | (simp; omega) | omega) _ | with_reducible refine Below.setCell ?_ (by first | (simp; done) | (simp; omega) | omega) _)) hc5
  clear hc5 hI4 hO
  go_wp2_with fail
  with_reducible refine (H_hnd.out _).mono ?_
  rintro e w6 ⟨rfl, hc6⟩
  have hI6 := hI5.later hc6
  have hb6 : Below w.heap.size w w6 := bchain (by repeat' (first | with_reducible exact hb5 | with_reducible refine Below.drew ?_ | with_reducible refine below_drewN ?_ _ | with_reducible refine Below.alloc ?_ (by have := hb5.size; first | (simp; done) | (simp; omega) | omega) _ | with_reducible refine Below.setCell ?_ (by first | (simp; done) | (simp; omega) | omega) _)) hc6
  clear hc6 hI5
  go_wp2_with (refine wpList_store_blk rfl 24 _ _ rfl w.heap.size (by rfl) 24 _ ds (by rfl) hI6 H_hdsr.out H_hdsi.out H_hdso.out ?_; intro wz hBz hez; have Hz := Box.mk hez; clear hez)
  go_wp2_with fail
  have hbz : Below w.heap.size w wz := Hz.out ▸ below_setCells (by omega) _ _ _ hb6
  exact bodyPost_ret (results_blk (by rfl) _ _ w.heap.size 24 _ _ rfl hBz Tryd.underlying24 rfl H_hdsi.out) rfl ⟨rfl, hbz⟩
theorem rof_ok : ∀ (m : Nat) (l : List (List Int)), l.length ≤ m → m ≤ 1000 → IncL l → ROfOk l := by
  intro m
  induction m with
  | zero =>
    intro l hm hb hinc a c w h
    obtain rfl : l = [] := List.eq_nil_of_length_eq_zero (by omega)
    exact rof_zero a c w
  | succ m ih =>
    intro l hm hb hinc a c w h
    match l, hm, hinc, h with
    | [], _, _, _ => exact rof_zero a c w
    | [x], _, _, h => exact rof_one x a c w h
    | x :: y :: t, hm, hinc, h =>
      have hF := hinc.cutF (by simp)
      have := hF.sum
      have := hF.zl
      have := hF.ol
      exact rof_two _ _ _ _ hF (hinc.split (by simp)).1 a _ c w h rfl (by omega) (ih _ (by omega) (by omega) hF.iz) (ih _ (by omega) (by omega) hF.io)

end Go.Proofs.YtfabcdpmnbeflaaDoor
