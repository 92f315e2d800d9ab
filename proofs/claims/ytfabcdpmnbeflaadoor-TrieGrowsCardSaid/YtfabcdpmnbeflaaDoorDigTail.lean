/- What comes behind the bytes. -/
import Derived.Test.YtfabcdpmnbeflaaDoorDigBlocks
namespace Go.Proofs.YtfabcdpmnbeflaaDoor
set_option maxRecDepth 100000
set_option linter.unusedSimpArgs false
set_option linter.unusedVariables false
set_option linter.unnecessarySimpa false
open Go.RowKit

/-- The first k of the eight bytes of a number. -/
def lb (x : Int) : Nat → List Int
  | 0 => []
  | k + 1 => lb x k ++ [x / 2 ^ (56 - 8 * k) % 256]
theorem lb_len (x : Int) : ∀ k, (lb x k).length = k
  | 0 => rfl
  | k + 1 => by rw [lb, List.length_append, lb_len x k]; rfl
theorem lb_bytes (x : Int) : ∀ k, Bytes8 (lb x k)
  | 0 => fun y hy => by cases hy
  | k + 1 => (lb_bytes x k).append fun y hy => by rw [List.mem_singleton.1 hy]; omega
def zn (n : Nat) : Nat := (119 - n % 64) % 64
def tailL (n : Nat) : List Int := 128 :: List.replicate (zn n) 0 ++ lb (8 * n) 8
theorem tailL_len (n : Nat) : (tailL n).length = 9 + zn n := by unfold tailL; simp [lb_len]; omega
theorem tailL_bytes (n : Nat) : Bytes8 (tailL n) := by
  unfold tailL
  refine Bytes8.append (fun y hy => ?_) (lb_bytes _ _)
  rcases List.mem_cons.1 hy with rfl | h
  · omega
  · rw [(List.mem_replicate.1 h).2]; omega
theorem zn_eq (n z : Nat) (h : z < 64) (h2 : (n + (1 + z) + 8) % 64 = 0) : z = zn n := by unfold zn; omega
theorem zn_ne (n z : Nat) (h : z < zn n) : (n + (1 + z) + 8) % 64 ≠ 0 := by unfold zn at h; omega
theorem zn_at (n : Nat) : (n + (1 + zn n) + 8) % 64 = 0 := by unfold zn; omega
theorem zn_lt (n : Nat) : zn n < 64 := by unfold zn; omega

set_option maxHeartbeats 2000000 in
theorem tail_any (n : Nat) (w : World) (hn : n ≤ 1099511627776) :
    Calls Tryd.prog 70 #[.int .i64 n] w fun e w' =>
      ∃ a' c', e = .returned (.slice a' (9 + zn n) c') ∧ OwnX w' w.heap.size 5 1 (.slice a' (9 + zn n) c') (9 + zn n) ((tailL n).map (Value.int .u8)) ∧ Below w.heap.size w w' := by
  obtain ⟨i0, hi, hz0, hz1, hz2⟩ := info_parts info_u8
  have hnI : (n : Int) ≤ 1099511627776 := by omega
  have hzl := zn_lt n
  go_enter Tryd.func70, Tryd.ntmps70
  have hb0 := Below.refl w.heap.size w
  go_wp2_with fail
  refine wp_gen fun w1 hc1 => ?_
  have o1 : OwnX w1 w.heap.size 5 1 (.slice (some ⟨w.heap.size, 0, none⟩) 1 1) 1 [.int .u8 128] := OwnX.later (OwnX.made w [.int .u8 128] _ _ 1 1 (Nat.le_refl _) (by simp [maxLen]) rfl) hc1
  have hb1 : Below w.heap.size w w1 := bchain (by repeat' (first | with_reducible exact hb0 | with_reducible refine Below.drew ?_ | with_reducible refine below_drewN ?_ _ | with_reducible refine Below.alloc ?_ (by have := hb0.size; first | (simp; done) | (simp; omega) | omega) _ | with_reducible refine Below.setCell ?_ (by first | (simp; done) | (simp; omega) | omega) _)) hc1
  clear hc1
  go_loopw [3] (fun s wr => ∃ (z : Nat) (av : Option Addr) (cv m : Nat), z ≤ zn n ∧ Hid (m = 1 + z) ∧ s = .slice av m cv ∧ Below w.heap.size w wr ∧ OwnX wr w.heap.size 5 1 (.slice av m cv) m ((128 :: List.replicate z 0).map (Value.int .u8))) (fun s _ => 100 - sliceLen8 s)
  case atStart => exact ⟨0, _, _, 1, Nat.zero_le _, hid rfl, rfl, hb1, o1⟩
  case round =>
    clear o1 hb1
    obtain ⟨z, av, cv, m, hz, Hm, rfl, hbw, ow⟩ := hrel
    have hm64 : (m : Int) ≤ 64 := by have := Hm.out; omega
    by_cases hlt : z < zn n
    · have hne : ((n : Int) + (m : Int) + 8) % 64 ≠ 0 := by have := zn_ne n z hlt; rw [← Hm.out] at this; omega
      have hne' : (((n : Int) + (m : Int) + 8) % 64 == 0) = false := beq_eq_false_iff_ne.2 hne
      have hne2 : (((n : Int) + (m : Int) + 8) % 64 != 0) = true := by rw [bne, hne']; rfl
      clear hne
      have hz2' := hbw.size
      go_wp2_with (at_builtin; refine stop ?_)
      refine Stop.go ?_
      refine wpList_append_x _ rfl _ _ 39 rfl w.heap.size 5 i0 (.int .u8 0) 1 1 Tryd.underlying39 hi hz0 hz1 hz2 rfl (by decide) (.slice av m cv) m _ rfl (ow.alloc _) (some ⟨wr.heap.size, 0, none⟩) 1 1 [.int .u8 0] rfl rfl (cellsAt_one wr _ _) (oneCell_int _ _) (by unfold maxLen; omega) (by omega) (by simp; omega) ?_
      intro a5 c5 w5 o5 hg hk5
      have hb5 : Below w.heap.size w w5 := below_grownX (hbw.alloc hz2' _) hg (by simp; omega) (fun q h => (ow.lt q h).1)
      go_wp2_with fail
      go_roundw
      case rel =>
        refine ⟨z + 1, a5, c5, m + 1, by omega, hid (by have := Hm.out; omega), rfl, hb5, ?_⟩
        rw [List.replicate_succ']
        simpa using o5
      case measure => simp [sliceLen8]; omega
    · have hzz : z = zn n := by omega
      have h0 : ((n : Int) + (m : Int) + 8) % 64 = 0 := by have := zn_at n; rw [← hzz, ← Hm.out] at this; omega
      have hne' : (((n : Int) + (m : Int) + 8) % 64 == 0) = true := beq_iff_eq.2 h0
      have hne2 : (((n : Int) + (m : Int) + 8) % 64 != 0) = false := by rw [bne, hne']; rfl
      have ow' : OwnX wr w.heap.size 5 1 (.slice av m cv) m ((128 :: List.replicate (zn n) 0 ++ lb (8 * n) 0).map (Value.int .u8)) := by rw [hzz] at ow; simpa [lb] using ow
      have Hzz := hid hzz
      clear hzz h0 ow
      go_wp2_with fail
      have hx8 : IntKind.u64.wrap (8 * (n : Int)) = 8 * (n : Int) := by rw [IntKind.wrap_u64]; omega
      go_loopw [3, 4] (fun s q wr => ∃ (k : Nat) (av : Option Addr) (cv m : Nat), k ≤ 8 ∧ q = .int .i64 (7 - (k : Int)) ∧ Hid (m = 1 + zn n + k) ∧ s = .slice av m cv ∧ Below w.heap.size w wr ∧ OwnX wr w.heap.size 5 1 (.slice av m cv) m ((128 :: List.replicate (zn n) 0 ++ lb (8 * n) k).map (Value.int .u8))) (fun _ q _ => (intOf q + 1).toNat)
      case atStart => exact ⟨0, av, cv, m, by omega, rfl, hid (by have := Hm.out; have := Hzz.out; omega), rfl, hbw, ow'⟩
      case round =>
        clear ow' hbw hm64
        obtain ⟨k, av, cv, m, hk, rfl, Hm, rfl, hbw, ow⟩ := hrel
        have hm64 : (m : Int) ≤ 100 := by have := Hm.out; omega
        have hz2' := hbw.size
        by_cases hlt : k < 8
        · obtain ⟨i, hi'⟩ : ∃ i : Nat, i = 7 - k := ⟨_, rfl⟩
          have e7 : (7 : Int) - (k : Int) = (i : Int) := by omega
          rw [e7]
          have hi7 : (i : Int) ≤ 7 := by omega
          have Hi := hid hi'
          clear hi' e7
          go_wp2_with (at_builtin; refine stop ?_)
          refine Stop.go ?_
          refine wpList_append_x _ rfl _ _ 39 rfl w.heap.size 5 i0 (.int .u8 0) 1 1 Tryd.underlying39 hi hz0 hz1 hz2 rfl (by decide) (.slice av m cv) m _ rfl (ow.alloc _) (some ⟨wr.heap.size, 0, none⟩) 1 1 [.int .u8 _] rfl rfl (cellsAt_one wr _ _) (oneCell_int _ _) (by unfold maxLen; omega) (by omega) (by simp; omega) ?_
          intro a5 c5 w5 o5 hg hk5
          have hb5 : Below w.heap.size w w5 := below_grownX (hbw.alloc hz2' _) hg (by simp; omega) (fun q h => (ow.lt q h).1)
          have e1 : (128 :: List.replicate (zn n) 0 ++ lb (8 * n) (k + 1)).map (Value.int .u8) = (128 :: List.replicate (zn n) 0 ++ lb (8 * n) k).map (Value.int .u8) ++ [.int .u8 (8 * n / 2 ^ (56 - 8 * k) % 256)] := by simp [lb]
          have o6 : OwnX w5 w.heap.size 5 1 (.slice a5 (m + 1) c5) (m + 1) ((128 :: List.replicate (zn n) 0 ++ lb (8 * n) (k + 1)).map (Value.int .u8)) := by
            rw [e1]
            refine ow_last o5 ?_
            have e2 : 8 * i = 56 - 8 * k := by have := Hi.out; omega
            rw [e2]
          clear o5
          have H_e1 := hid e1
          have H_o6 := hid o6
          clear e1 o6
          go_wp2_with fail
          go_roundw
          case rel => exact ⟨k + 1, a5, c5, m + 1, by omega, congrArg (Value.int .i64) (by have := Hi.out; omega), hid (by have := Hm.out; omega), rfl, hb5, H_o6.out⟩
          case measure => (have := Hi.out; first | (simp [intOf]; done) | (simp [intOf]; omega))
        · have ek : k = 8 := by omega
          have e7 : (7 : Int) - (k : Int) = -1 := by omega
          rw [e7]
          have em : m = 9 + zn n := by have := Hm.out; omega
          rw [ek] at ow
          have ot : OwnX wr w.heap.size 5 1 (.slice av m cv) m ((tailL n).map (Value.int .u8)) := ow
          rw [em] at ot
          have H_ek := hid ek
          have H_e7 := hid e7
          have H_em := hid em
          clear ek e7 em
          clear ow
          go_wp2_with fail
          go_ret
          exact ⟨av, cv, congrArg (fun z => Ending.returned (.slice av z cv)) H_em.out, ot, hbw⟩

/-- The digest of words, its first i bytes written. -/
def wr32 (l : List Int) : Nat → List Int
  | 0 => List.replicate 32 0
  | i + 1 => (wr32 l i).set i (l[i / 4]?.getD 0 / 2 ^ (24 - 8 * (i % 4)) % 256)
theorem wr32_len (l : List Int) : ∀ i, (wr32 l i).length = 32
  | 0 => List.length_replicate ..
  | i + 1 => by rw [wr32, List.length_set]; exact wr32_len l i
theorem wr32_bytes (l : List Int) : ∀ i, Bytes8 (wr32 l i)
  | 0 => fun y hy => by rw [(List.mem_replicate.1 hy).2]; omega
  | i + 1 => fun y hy => by
    rcases List.mem_or_eq_of_mem_set hy with h1 | h1
    · exact wr32_bytes l i y h1
    · subst h1; omega
theorem info32 : (Tryd.prog.info? 24).map (·.size) = some 32 := by kernel_rfl

set_option maxRecDepth 100000 in
set_option maxHeartbeats 4000000 in
theorem written_any (v : V8) (w : World) (hv : v.ok) :
    Calls Tryd.prog 67 #[.agg #[.int .u32 v.a, .int .u32 v.b, .int .u32 v.c, .int .u32 v.d, .int .u32 v.e, .int .u32 v.f, .int .u32 v.g, .int .u32 v.z]] w fun e w' =>
      e = .returned (.agg ((wr32 v.list 32).map (Value.int .u8)).toArray) ∧ Below w.heap.size w w' := by
  have HV := hid hv
  clear hv
  go_enter Tryd.func67, Tryd.ntmps67
  have hb0 := Below.refl w.heap.size w
  go_wp2_with fail
  refine wp_gen fun w1 hc1 => ?_
  have hH : Blk w1 w.heap.size 93 (v.list.map (Value.int .u32)) := Blk.later (((Blk.newA w _ _ _ (v.list.map (Value.int .u32)) rfl (by rfl)).alloc _).alloc _) hc1
  have hR : Blk w1 (w.heap.size + 1) 24 (List.replicate 32 (Value.int .u8 0)) := Blk.later ((Blk.newA _ _ _ _ (List.replicate 32 (Value.int .u8 0)) (by simp) (by rfl)).alloc _) hc1
  have hO : Blk w1 (w.heap.size + 1 + 1) 24 ((wr32 v.list 0).map (Value.int .u8)) := Blk.later (Blk.newA _ _ _ _ ((wr32 v.list 0).map (Value.int .u8)) (by simp) (by rfl)) hc1
  have hb1 : Below w.heap.size w w1 := bchain (by repeat' (first | with_reducible exact hb0 | with_reducible refine Below.drew ?_ | with_reducible refine below_drewN ?_ _ | with_reducible refine Below.alloc ?_ (by have := hb0.size; first | (simp; done) | (simp; omega) | omega) _ | with_reducible refine Below.setCell ?_ (by first | (simp; done) | (simp; omega) | omega) _)) hc1
  clear hc1
  go_loopw [4] (fun q wr => ∃ (i : Nat), i ≤ 32 ∧ q = .int .i64 i ∧ Below w.heap.size w wr ∧ Blk wr w.heap.size 93 (v.list.map (Value.int .u32)) ∧ Blk wr (w.heap.size + 1) 24 (List.replicate 32 (Value.int .u8 0)) ∧ Blk wr (w.heap.size + 1 + 1) 24 ((wr32 v.list i).map (Value.int .u8))) (fun q _ => 32 - (intOf q).toNat)
  case atStart => exact ⟨0, by omega, rfl, hb1, hH, hR, hO⟩
  case round =>
    clear hH hR hO hb1
    obtain ⟨i, hi, rfl, hbw, hH, hR, hO⟩ := hrel
    by_cases hlt : i < 32
    · have hlt' : (i : Int) < 32 := by omega
      obtain ⟨q, hq⟩ : ∃ q : Nat, q = i / 4 := ⟨_, rfl⟩
      obtain ⟨r, hr⟩ : ∃ r : Nat, r = i % 4 := ⟨_, rfl⟩
      obtain ⟨s, hs⟩ : ∃ s : Nat, s = 24 - 8 * r := ⟨_, rfl⟩
      have eq : (i : Int) / 4 = (q : Int) := by omega
      have er : (i : Int) % 4 = (r : Int) := by omega
      have es : (24 : Int) - 8 * (r : Int) = (s : Int) := by omega
      have hq8 : (q : Int) < 8 := by omega
      have hs24 : (s : Int) ≤ 24 := by omega
      have cH := hH.cellI (j := q) (by show q < 8; omega)
      have cO := hO.cellI (j := i) (by rw [wr32_len]; omega)
      have fO := hO.free i
      have hv8 := HV.out.list.at q
      obtain ⟨y, hy⟩ : ∃ y, y = v.list[q]?.getD 0 := ⟨_, rfl⟩
      rw [← hy] at cH hv8
      obtain ⟨hv8a, hv8b⟩ := hv8
      have hr4 : (r : Int) ≤ 3 := by omega
      have H_hy := hid hy
      have H_hq := hid hq
      have H_hr := hid hr
      have H_hs := hid hs
      clear hy hq hr hs
      go_wp2_with fail
      go_roundw
      case rel =>
        have h2 : wr32 v.list (i + 1) = (wr32 v.list i).set i (y / 2 ^ s % 256) := by rw [H_hy.out, H_hs.out, H_hr.out, H_hq.out]; rfl
        refine ⟨i + 1, by omega, by go_num, ?_, (hH.setFar (by simp; omega) _), (hR.setFar (by simp) _), ?_⟩
        · repeat' (first | with_reducible exact hbw | with_reducible refine Below.drew ?_ | with_reducible refine Below.setCell ?_ (by first | (simp; done) | (simp; omega) | omega) _)
        · rw [h2]; exact hO.setI i _
      case measure => simp [intOf]; omega
    · have hge : (32 : Int) ≤ (i : Int) := by omega
      have hi32 : i = 32 := by omega
      rw [hi32] at hO
      obtain ⟨vs, hvs⟩ : ∃ vs, vs = (wr32 v.list 32).map (Value.int .u8) := ⟨_, rfl⟩
      have hvl : vs.length = 32 := by rw [hvs, List.length_map, wr32_len]
      have ho : ∀ x ∈ vs, x.oneCell' = true := by rw [hvs]; exact oneCell_ints _ _
      have hlr : vs.length = (List.replicate 32 (Value.int .u8 0)).length := by rw [hvl]; rfl
      have hi2 : (Tryd.prog.info? 24).map (·.size) = some vs.length := by rw [hvl]; exact info32
      rw [← hvs] at hO
      have H_hi32 := hid hi32
      have H_hvs := hid hvs
      have H_hvl := hid hvl
      have H_ho := hid ho
      have H_hi2 := hid hi2
      have H_hlr := hid hlr
      clear hi32 hvs hvl ho hi2 hlr
      go_wp2_with (first | (refine wpList_load_blk rfl 24 _ rfl (w.heap.size + 1 + 1) (by rfl) 24 vs _ hO Tryd.underlying24 rfl H_hi2.out ?_) | (refine wpList_store_blk rfl 24 _ _ rfl (w.heap.size + 1) (by rfl) 24 _ vs (by rfl) hR H_hlr.out H_hi2.out H_ho.out ?_; intro w7 hB7 he7))
      go_wp2_with fail
      have hb7 : Below w.heap.size w w7 := he7 ▸ below_setCells (Nat.le_succ _) _ _ _ hbw
      exact bodyPost_ret (results_blk (by rfl) _ _ (w.heap.size + 1) 24 _ _ rfl hB7 Tryd.underlying24 rfl H_hi2.out) rfl ⟨by rw [H_hvs.out], hb7⟩

end Go.Proofs.YtfabcdpmnbeflaaDoor
