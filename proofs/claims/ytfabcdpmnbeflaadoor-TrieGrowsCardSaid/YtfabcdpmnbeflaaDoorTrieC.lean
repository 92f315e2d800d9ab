/- TrieC: TrieCheck, TrieRoots, TrieSplit, TrieSame. -/
import Derived.Test.YtfabcdpmnbeflaaDoorTrieB
/- Check, Root, Bit: of the program and of the reference. -/
namespace Go.Proofs.YtfabcdpmnbeflaaDoor
set_option linter.unusedSimpArgs false
set_option linter.unusedVariables false
set_option linter.unnecessarySimpa false
open Go.RowKit
set_option maxRecDepth 100000

set_option maxHeartbeats 2000000 in
theorem check_any (l : List (List Int)) (a : Option Addr) (n c : Nat) (w : World) (h : IdsIn w a c l) (hn : n = l.length) (hm : n ≤ maxLen) :
    Calls Tryd.prog 17 #[.slice a n c] w fun e w' =>
      e = .returned (.int .i64 (chkZ l)) ∧ Below w.heap.size w w' := by
  unfold maxLen at hm
  by_cases hbig : 60 < n
  · have hr : chkZ l = 4 := by unfold chkZ; rw [if_pos (by omega)]
    have hbI : (60 : Int) < (n : Int) := by omega
    rw [hr]
    have H_hr := Box.mk hr
    have H_h := Box.mk h
    have H_hn := Box.mk hn
    clear hr h hn
    go_enter Tryd.func17, Tryd.ntmps17
    have hb0 := Below.refl w.heap.size w
    go_wp2_with fail
    go_ret
    exact ⟨rfl, hb0⟩
  · have hbI : (n : Int) ≤ 60 := by omega
    have hr := (fun (hs : sortB l = true) => show chkZ l = 0 by unfold chkZ; rw [if_neg (by omega), if_pos hs])
    have hr2 := (fun (hs : sortB l = false) => show chkZ l = 32 by unfold chkZ; rw [if_neg (by omega), if_neg (by rw [hs]; decide)])
    have hrow := fun (hp : 0 < n) => h.row (by omega)
    have hids := fun (k : Nat) (hk : k < n) => h.ids _ (pc_mem (show k < l.length by omega))
    obtain ⟨V, hV⟩ : ∃ V, chkZ l = V := ⟨_, rfl⟩
    rw [hV] at hr hr2 ⊢
    have H_hr := Box.mk hr
    have H_hr2 := Box.mk hr2
    have H_hrow := Box.mk hrow
    have H_hids := Box.mk hids
    have H_h := Box.mk h
    have H_hn := Box.mk hn
    have H_hV := Box.mk hV
    clear hr hr2 hrow hids h hn hV
    go_enter Tryd.func17, Tryd.ntmps17
    have hb0 := Below.refl w.heap.size w
    go_wp2_with fail
    go_loopw [9] (fun q wr => ∃ k : Nat, k ≤ n ∧ q = .int .i64 k ∧ Below w.heap.size w wr ∧ Box (∀ j, j + 1 < k → cmpZ (pc l j) (pc l (j + 1)) < 0)) (fun q _ => n - (intOf q).toNat)
    case atStart => exact ⟨0, Nat.zero_le _, rfl, hb0, ⟨fun j hj => by omega⟩⟩
    case round =>
      obtain ⟨k, hk, rfl, hbw, hall⟩ := hrel
      by_cases hlt : k < n
      · have hltI : (k : Int) < (n : Int) := by omega
        by_cases h0 : k = 0
        · subst h0
          go_wp2_with fail
          refine wp_gen fun w11 hc11 => ?_
          have hb11 : Below w.heap.size w w11 := bchain (by repeat' (first | with_reducible exact hbw | with_reducible refine Below.drew ?_ | with_reducible refine below_drewN ?_ _ | with_reducible refine Below.alloc ?_ (by have := hbw.size; first | (simp; done) | (simp; omega) | omega) _ | with_reducible refine Below.setCell ?_ (by first | (simp; done) | (simp; omega) | omega) _)) hc11
          clear hc11
          refine wp_region_on (by kernel_rfl) (by kernel_rfl) ?_
          repeat (go_big_quiet_step (fail))
          refine wpQuiet_nil ?_
          intro w12 hc12
          have hb12 : Below w.heap.size w w12 := bchain (by repeat' (first | with_reducible exact hb11 | with_reducible refine Below.drew ?_ | with_reducible refine below_drewN ?_ _ | with_reducible refine Below.alloc ?_ (by have := hb11.size; first | (simp; done) | (simp; omega) | omega) _ | with_reducible refine Below.setCell ?_ (by first | (simp; done) | (simp; omega) | omega) _)) hc12
          clear hc12
          go_wp2_with fail
          go_roundw
          case rel => exact ⟨1, by omega, by go_num, hb12, ⟨fun j hj => by omega⟩⟩
          case measure => simp [intOf]; omega
        · obtain ⟨i, hki⟩ : ∃ i, k = i + 1 := ⟨k - 1, by omega⟩
          obtain ⟨b, o, rfl, hbl, hr⟩ := H_hrow.out (by omega)
          have hx := H_hids.out i (by omega)
          have hy := H_hids.out k (by omega)
          have hrx := rangeAt_later (hr i (by have := H_hn.out; omega)) hbw
          have hry := rangeAt_later (hr k (by have := H_hn.out; omega)) hbw
          have hcm := fun W => cmp_any (pc l i) (pc l k) W hx.len hy.len hx.bytes hy.bytes
          obtain ⟨us, hus⟩ : ∃ v, v = idC (pc l i) := ⟨_, rfl⟩
          have husl := idC_len hx
          have husi := idC_info hx
          have huso := idC_one (pc l i)
          rw [← hus] at husl husi huso
          have husr : us.length = (List.replicate 32 (Value.int .u8 0)).length := by rw [husl]; rfl
          obtain ⟨vs, hvs⟩ : ∃ v, v = idC (pc l k) := ⟨_, rfl⟩
          have hvsl := idC_len hy
          have hvsi := idC_info hy
          have hvso := idC_one (pc l k)
          rw [← hvs] at hvsl hvsi hvso
          have hvsr : vs.length = (List.replicate 32 (Value.int .u8 0)).length := by rw [hvsl]; rfl
          obtain ⟨z, hz⟩ : ∃ z, cmpZ (pc l i) (pc l k) = z := ⟨_, rfl⟩
          have hcm' : ∀ W, Calls Tryd.prog 39 #[.agg us.toArray, .agg vs.toArray] W fun e w' => e = .returned (.int .i64 z) ∧ Below W.heap.size W w' := fun W => by rw [hus, hvs, ← hz]; exact hcm W
          simp only [← hus, ← hvs] at hrx hry
          have h0I : (0 : Int) < (k : Int) := by omega
          have h0N : 0 < k := by omega
          have hi1 : (k : Int) - 1 = (i : Int) := by omega
          have hi2 : (i : Int) < (n : Int) := by omega
          by_cases hneg : z < 0
          · have hnext : ∀ j, j + 1 < k + 1 → cmpZ (pc l j) (pc l (j + 1)) < 0 := fun j hj => by
              by_cases hji : j = i
              · subst hji; rw [← hki, hz]; exact hneg
              · exact hall.out j (by omega)
            have H_hus := Box.mk hus
            have H_husl := Box.mk husl
            have H_husi := Box.mk husi
            have H_huso := Box.mk huso
            have H_husr := Box.mk husr
            have H_hvs := Box.mk hvs
            have H_hvsl := Box.mk hvsl
            have H_hvsi := Box.mk hvsi
            have H_hvso := Box.mk hvso
            have H_hvsr := Box.mk hvsr
            have H_hcm := Box.mk hcm
            have H_hcm' := Box.mk hcm'
            have H_hz := Box.mk hz
            have H_hr := Box.mk hr
            have H_hx := Box.mk hx
            have H_hy := Box.mk hy
            have H_h0 := Box.mk h0
            have H_hki := Box.mk hki
            have H_hnext := Box.mk hnext
            have H_hall := Box.mk hall
            clear hus husl husi huso husr hvs hvsl hvsi hvso hvsr hcm hcm' hz hr hx hy h0 hki hnext hall
            go_wp2_with fail
            refine wp_gen fun w11 hc11 => ?_
            have hb11 : Below w.heap.size w w11 := bchain (by repeat' (first | with_reducible exact hbw | with_reducible refine Below.drew ?_ | with_reducible refine below_drewN ?_ _ | with_reducible refine Below.alloc ?_ (by have := hbw.size; first | (simp; done) | (simp; omega) | omega) _ | with_reducible refine Below.setCell ?_ (by first | (simp; done) | (simp; omega) | omega) _)) hc11
            have hrx := rangeAt_later hrx hc11
            have hry := rangeAt_later hry hc11
            clear hc11
            refine wp_region_on (by kernel_rfl) (by kernel_rfl) ?_
            repeat (first | ((refine wpQuiet_load_mid (by first | rfl | (simp [Region.wanted]; done)) 24 _ rfl b (o + i * 32) (by rfl) us _ hrx Tryd.underlying24 rfl H_husi.out ?_); simp only [Act.put, List.setIfInBounds_toArray, List.set_cons_succ, List.set_cons_zero]) | ((refine wpQuiet_load_mid (by first | rfl | (simp [Region.wanted]; done)) 24 _ rfl b (o + k * 32) (by rfl) vs _ hry Tryd.underlying24 rfl H_hvsi.out ?_); simp only [Act.put, List.setIfInBounds_toArray, List.set_cons_succ, List.set_cons_zero]) | (go_big_quiet_step ((first | (go_at_call 39; with_reducible exact calls_on (H_hcm'.out _))))))
            refine wpQuiet_nil ?_
            intro w12 hc12
            have hb12 : Below w.heap.size w w12 := bchain (by repeat' (first | with_reducible exact hb11 | with_reducible refine Below.drew ?_ | with_reducible refine below_drewN ?_ _ | with_reducible refine Below.alloc ?_ (by have := hb11.size; first | (simp; done) | (simp; omega) | omega) _ | with_reducible refine Below.setCell ?_ (by first | (simp; done) | (simp; omega) | omega) _)) hc12
            clear hc12
            go_wp2_with fail
            go_roundw
            case rel => exact ⟨k + 1, by omega, by go_num, hb12, H_hnext⟩
            case measure => simp [intOf]; omega
          · have hV := H_hr2.out (sortB_no (i := i) (by have := H_hn.out; omega) (by rw [← hki, hz]; exact hneg))
            have hneg2 : 0 ≤ z := by omega
            have H_hus := Box.mk hus
            have H_husl := Box.mk husl
            have H_husi := Box.mk husi
            have H_huso := Box.mk huso
            have H_husr := Box.mk husr
            have H_hvs := Box.mk hvs
            have H_hvsl := Box.mk hvsl
            have H_hvsi := Box.mk hvsi
            have H_hvso := Box.mk hvso
            have H_hvsr := Box.mk hvsr
            have H_hcm := Box.mk hcm
            have H_hcm' := Box.mk hcm'
            have H_hz := Box.mk hz
            have H_hr := Box.mk hr
            have H_hx := Box.mk hx
            have H_hy := Box.mk hy
            have H_h0 := Box.mk h0
            have H_hki := Box.mk hki
            have H_hV := Box.mk hV
            have H_hall := Box.mk hall
            clear hus husl husi huso husr hvs hvsl hvsi hvso hvsr hcm hcm' hz hr hx hy h0 hki hV hall
            go_wp2_with fail
            refine wp_gen fun w11 hc11 => ?_
            have hb11 : Below w.heap.size w w11 := bchain (by repeat' (first | with_reducible exact hbw | with_reducible refine Below.drew ?_ | with_reducible refine below_drewN ?_ _ | with_reducible refine Below.alloc ?_ (by have := hbw.size; first | (simp; done) | (simp; omega) | omega) _ | with_reducible refine Below.setCell ?_ (by first | (simp; done) | (simp; omega) | omega) _)) hc11
            have hrx := rangeAt_later hrx hc11
            have hry := rangeAt_later hry hc11
            clear hc11
            refine wp_region_on (by kernel_rfl) (by kernel_rfl) ?_
            repeat (first | ((refine wpQuiet_load_mid (by first | rfl | (simp [Region.wanted]; done)) 24 _ rfl b (o + i * 32) (by rfl) us _ hrx Tryd.underlying24 rfl H_husi.out ?_); simp only [Act.put, List.setIfInBounds_toArray, List.set_cons_succ, List.set_cons_zero]) | ((refine wpQuiet_load_mid (by first | rfl | (simp [Region.wanted]; done)) 24 _ rfl b (o + k * 32) (by rfl) vs _ hry Tryd.underlying24 rfl H_hvsi.out ?_); simp only [Act.put, List.setIfInBounds_toArray, List.set_cons_succ, List.set_cons_zero]) | ((refine wpQuiet_load_mid (by first | rfl | (simp [Region.wanted]; done)) 24 _ rfl b (o + i * 32) (by rfl) us _ hrx Tryd.underlying24 rfl H_husi.out ?_); simp only [Act.put, List.setIfInBounds_toArray, List.set_cons_succ, List.set_cons_zero]) | ((refine wpQuiet_load_mid (by first | rfl | (simp [Region.wanted]; done)) 24 _ rfl b (o + k * 32) (by rfl) vs _ hry Tryd.underlying24 rfl H_hvsi.out ?_); simp only [Act.put, List.setIfInBounds_toArray, List.set_cons_succ, List.set_cons_zero]) | (go_big_quiet_step ((first | (go_at_call 39; with_reducible exact calls_on (H_hcm'.out _))))))
            refine wpQuiet_nil ?_
            intro w12 hc12
            have hb12 : Below w.heap.size w w12 := bchain (by repeat' (first | with_reducible exact hb11 | with_reducible refine Below.drew ?_ | with_reducible refine below_drewN ?_ _ | with_reducible refine Below.alloc ?_ (by have := hb11.size; first | (simp; done) | (simp; omega) | omega) _ | with_reducible refine Below.setCell ?_ (by first | (simp; done) | (simp; omega) | omega) _)) hc12
            clear hc12
            go_wp2_with fail
            go_ret
            exact ⟨by rw [H_hV.out]; rfl, hb12⟩
      · have hge : (n : Int) ≤ (k : Int) := by omega
        have hV := H_hr.out (sortB_of fun i hi => hall.out i (by have := H_hn.out; omega))
        have H_hV := Box.mk hV
        clear hV
        clear hlt
        go_wp2_with fail
        go_ret
        exact ⟨by rw [H_hV.out]; rfl, hbw⟩

set_option maxHeartbeats 2000000 in
theorem rcheck_any (l : List (List Int)) (a : Option Addr) (n c : Nat) (w : World) (h : IdsIn w a c l) (hn : n = l.length) (hm : n ≤ maxLen) :
    Calls Tryd.prog 18 #[.slice a n c] w fun e w' =>
      e = .returned (.int .i64 (chkZ l)) ∧ Below w.heap.size w w' := by
  unfold maxLen at hm
  by_cases hbig : 60 < n
  · have hr : chkZ l = 4 := by unfold chkZ; rw [if_pos (by omega)]
    have hbI : (60 : Int) < (n : Int) := by omega
    rw [hr]
    have H_hr := Box.mk hr
    have H_h := Box.mk h
    have H_hn := Box.mk hn
    clear hr h hn
    go_enter Tryd.func18, Tryd.ntmps18
    have hb0 := Below.refl w.heap.size w
    go_wp2_with fail
    go_ret
    exact ⟨rfl, hb0⟩
  · have hbI : (n : Int) ≤ 60 := by omega
    have hr := (fun (hs : sortB l = true) => show chkZ l = 0 by unfold chkZ; rw [if_neg (by omega), if_pos hs])
    have hr2 := (fun (hs : sortB l = false) => show chkZ l = 32 by unfold chkZ; rw [if_neg (by omega), if_neg (by rw [hs]; decide)])
    have hrow := fun (hp : 0 < n) => h.row (by omega)
    have hids := fun (k : Nat) (hk : k < n) => h.ids _ (pc_mem (show k < l.length by omega))
    obtain ⟨V, hV⟩ : ∃ V, chkZ l = V := ⟨_, rfl⟩
    rw [hV] at hr hr2 ⊢
    have H_hr := Box.mk hr
    have H_hr2 := Box.mk hr2
    have H_hrow := Box.mk hrow
    have H_hids := Box.mk hids
    have H_h := Box.mk h
    have H_hn := Box.mk hn
    have H_hV := Box.mk hV
    clear hr hr2 hrow hids h hn hV
    go_enter Tryd.func18, Tryd.ntmps18
    have hb0 := Below.refl w.heap.size w
    go_wp2_with fail
    go_loopw [3] (fun q wr => ∃ k : Nat, 1 ≤ k ∧ (k ≤ n ∨ k = 1) ∧ q = .int .i64 k ∧ Below w.heap.size w wr ∧ Box (∀ j, j + 1 < k → cmpZ (pc l j) (pc l (j + 1)) < 0)) (fun q _ => n - (intOf q).toNat)
    case atStart => exact ⟨1, by omega, by omega, rfl, hb0, ⟨fun j hj => by omega⟩⟩
    case round =>
      obtain ⟨k, hk1, hk, rfl, hbw, hall⟩ := hrel
      by_cases hlt : k < n
      · have hltI : (k : Int) < (n : Int) := by omega
        · obtain ⟨i, hki⟩ : ∃ i, k = i + 1 := ⟨k - 1, by omega⟩
          obtain ⟨b, o, rfl, hbl, hr⟩ := H_hrow.out (by omega)
          have hx := H_hids.out i (by omega)
          have hy := H_hids.out k (by omega)
          have hrx := rangeAt_later (hr i (by have := H_hn.out; omega)) hbw
          have hry := rangeAt_later (hr k (by have := H_hn.out; omega)) hbw
          have hcm := fun W => rless_any (pc l i) (pc l k) W hx hy
          obtain ⟨us, hus⟩ : ∃ v, v = idC (pc l i) := ⟨_, rfl⟩
          have husl := idC_len hx
          have husi := idC_info hx
          have huso := idC_one (pc l i)
          rw [← hus] at husl husi huso
          have husr : us.length = (List.replicate 32 (Value.int .u8 0)).length := by rw [husl]; rfl
          obtain ⟨vs, hvs⟩ : ∃ v, v = idC (pc l k) := ⟨_, rfl⟩
          have hvsl := idC_len hy
          have hvsi := idC_info hy
          have hvso := idC_one (pc l k)
          rw [← hvs] at hvsl hvsi hvso
          have hvsr : vs.length = (List.replicate 32 (Value.int .u8 0)).length := by rw [hvsl]; rfl
          obtain ⟨z, hz⟩ : ∃ z, cmpZ (pc l i) (pc l k) = z := ⟨_, rfl⟩
          obtain ⟨bz, hbz⟩ : ∃ bz, decide (z < 0) = bz := ⟨_, rfl⟩
          have hcm' : ∀ W, Calls Tryd.prog 29 #[.agg us.toArray, .agg vs.toArray] W fun e w' => e = .returned (.bool bz) ∧ Below W.heap.size W w' := fun W => by rw [hus, hvs, ← hbz, ← hz]; exact hcm W
          simp only [← hus, ← hvs] at hrx hry
          have h0I : (0 : Int) < (k : Int) := by omega
          have h0N : 0 < k := by omega
          have hi1 : (k : Int) - 1 = (i : Int) := by omega
          have hi2 : (i : Int) < (n : Int) := by omega
          by_cases hneg : z < 0
          · obtain rfl : bz = true := by rw [← hbz]; simpa using hneg
            have hnext : ∀ j, j + 1 < k + 1 → cmpZ (pc l j) (pc l (j + 1)) < 0 := fun j hj => by
              by_cases hji : j = i
              · subst hji; rw [← hki, hz]; exact hneg
              · exact hall.out j (by omega)
            have H_hus := Box.mk hus
            have H_husl := Box.mk husl
            have H_husi := Box.mk husi
            have H_huso := Box.mk huso
            have H_husr := Box.mk husr
            have H_hvs := Box.mk hvs
            have H_hvsl := Box.mk hvsl
            have H_hvsi := Box.mk hvsi
            have H_hvso := Box.mk hvso
            have H_hvsr := Box.mk hvsr
            have H_hcm := Box.mk hcm
            have H_hcm' := Box.mk hcm'
            have H_hz := Box.mk hz
            have H_hbz := Box.mk hbz
            have H_hneg := Box.mk hneg
            have H_hr := Box.mk hr
            have H_hx := Box.mk hx
            have H_hy := Box.mk hy
            have H_hki := Box.mk hki
            have H_hnext := Box.mk hnext
            have H_hall := Box.mk hall
            clear hus husl husi huso husr hvs hvsl hvsi hvso hvsr hcm hcm' hz hbz hneg hr hx hy hki hnext hall
            go_wp2_with fail
            refine wp_gen fun w11 hc11 => ?_
            have hb11 : Below w.heap.size w w11 := bchain (by repeat' (first | with_reducible exact hbw | with_reducible refine Below.drew ?_ | with_reducible refine below_drewN ?_ _ | with_reducible refine Below.alloc ?_ (by have := hbw.size; first | (simp; done) | (simp; omega) | omega) _ | with_reducible refine Below.setCell ?_ (by first | (simp; done) | (simp; omega) | omega) _)) hc11
            have hrx := rangeAt_later hrx hc11
            have hry := rangeAt_later hry hc11
            clear hc11
            refine wp_region_on (by kernel_rfl) (by kernel_rfl) ?_
            repeat (first | ((refine wpQuiet_load_mid (by first | rfl | (simp [Region.wanted]; done)) 24 _ rfl b (o + i * 32) (by rfl) us _ hrx Tryd.underlying24 rfl H_husi.out ?_); simp only [Act.put, List.setIfInBounds_toArray, List.set_cons_succ, List.set_cons_zero]) | ((refine wpQuiet_load_mid (by first | rfl | (simp [Region.wanted]; done)) 24 _ rfl b (o + k * 32) (by rfl) vs _ hry Tryd.underlying24 rfl H_hvsi.out ?_); simp only [Act.put, List.setIfInBounds_toArray, List.set_cons_succ, List.set_cons_zero]) | ((refine wpQuiet_load_mid (by first | rfl | (simp [Region.wanted]; done)) 24 _ rfl b (o + i * 32) (by rfl) us _ hrx Tryd.underlying24 rfl H_husi.out ?_); simp only [Act.put, List.setIfInBounds_toArray, List.set_cons_succ, List.set_cons_zero]) | ((refine wpQuiet_load_mid (by first | rfl | (simp [Region.wanted]; done)) 24 _ rfl b (o + k * 32) (by rfl) vs _ hry Tryd.underlying24 rfl H_hvsi.out ?_); simp only [Act.put, List.setIfInBounds_toArray, List.set_cons_succ, List.set_cons_zero]) | ((refine wpQuiet_load_mid (by first | rfl | (simp [Region.wanted]; done)) 24 _ rfl b (o + i * 32) (by rfl) us _ hrx Tryd.underlying24 rfl H_husi.out ?_); simp only [Act.put, List.setIfInBounds_toArray, List.set_cons_succ, List.set_cons_zero]) | ((refine wpQuiet_load_mid (by first | rfl | (simp [Region.wanted]; done)) 24 _ rfl b (o + k * 32) (by rfl) vs _ hry Tryd.underlying24 rfl H_hvsi.out ?_); simp only [Act.put, List.setIfInBounds_toArray, List.set_cons_succ, List.set_cons_zero]) | (go_big_quiet_step ((first | (go_at_call 29; with_reducible exact calls_on (H_hcm'.out _))))))
            refine wpQuiet_nil ?_
            intro w12 hc12
            have hb12 : Below w.heap.size w w12 := bchain (by repeat' (first | with_reducible exact hb11 | with_reducible refine Below.drew ?_ | with_reducible refine below_drewN ?_ _ | with_reducible refine Below.alloc ?_ (by have := hb11.size; first | (simp; done) | (simp; omega) | omega) _ | with_reducible refine Below.setCell ?_ (by first | (simp; done) | (simp; omega) | omega) _)) hc12
            clear hc12
            go_wp2_with fail
            go_roundw
            case rel => exact ⟨k + 1, by omega, by omega, by go_num, hb12, H_hnext⟩
            case measure => simp [intOf]; omega
          · obtain rfl : bz = false := by rw [← hbz]; simpa using hneg
            have hV := H_hr2.out (sortB_no (i := i) (by have := H_hn.out; omega) (by rw [← hki, hz]; exact hneg))
            have hneg2 : 0 ≤ z := by omega
            have H_hus := Box.mk hus
            have H_husl := Box.mk husl
            have H_husi := Box.mk husi
            have H_huso := Box.mk huso
            have H_husr := Box.mk husr
            have H_hvs := Box.mk hvs
            have H_hvsl := Box.mk hvsl
            have H_hvsi := Box.mk hvsi
            have H_hvso := Box.mk hvso
            have H_hvsr := Box.mk hvsr
            have H_hcm := Box.mk hcm
            have H_hcm' := Box.mk hcm'
            have H_hz := Box.mk hz
            have H_hbz := Box.mk hbz
            have H_hneg := Box.mk hneg
            have H_hr := Box.mk hr
            have H_hx := Box.mk hx
            have H_hy := Box.mk hy
            have H_hki := Box.mk hki
            have H_hV := Box.mk hV
            have H_hall := Box.mk hall
            clear hus husl husi huso husr hvs hvsl hvsi hvso hvsr hcm hcm' hz hbz hneg hr hx hy hki hV hall
            go_wp2_with fail
            refine wp_gen fun w11 hc11 => ?_
            have hb11 : Below w.heap.size w w11 := bchain (by repeat' (first | with_reducible exact hbw | with_reducible refine Below.drew ?_ | with_reducible refine below_drewN ?_ _ | with_reducible refine Below.alloc ?_ (by have := hbw.size; first | (simp; done) | (simp; omega) | omega) _ | with_reducible refine Below.setCell ?_ (by first | (simp; done) | (simp; omega) | omega) _)) hc11
            have hrx := rangeAt_later hrx hc11
            have hry := rangeAt_later hry hc11
            clear hc11
            refine wp_region_on (by kernel_rfl) (by kernel_rfl) ?_
            repeat (first | ((refine wpQuiet_load_mid (by first | rfl | (simp [Region.wanted]; done)) 24 _ rfl b (o + i * 32) (by rfl) us _ hrx Tryd.underlying24 rfl H_husi.out ?_); simp only [Act.put, List.setIfInBounds_toArray, List.set_cons_succ, List.set_cons_zero]) | ((refine wpQuiet_load_mid (by first | rfl | (simp [Region.wanted]; done)) 24 _ rfl b (o + k * 32) (by rfl) vs _ hry Tryd.underlying24 rfl H_hvsi.out ?_); simp only [Act.put, List.setIfInBounds_toArray, List.set_cons_succ, List.set_cons_zero]) | ((refine wpQuiet_load_mid (by first | rfl | (simp [Region.wanted]; done)) 24 _ rfl b (o + i * 32) (by rfl) us _ hrx Tryd.underlying24 rfl H_husi.out ?_); simp only [Act.put, List.setIfInBounds_toArray, List.set_cons_succ, List.set_cons_zero]) | ((refine wpQuiet_load_mid (by first | rfl | (simp [Region.wanted]; done)) 24 _ rfl b (o + k * 32) (by rfl) vs _ hry Tryd.underlying24 rfl H_hvsi.out ?_); simp only [Act.put, List.setIfInBounds_toArray, List.set_cons_succ, List.set_cons_zero]) | ((refine wpQuiet_load_mid (by first | rfl | (simp [Region.wanted]; done)) 24 _ rfl b (o + i * 32) (by rfl) us _ hrx Tryd.underlying24 rfl H_husi.out ?_); simp only [Act.put, List.setIfInBounds_toArray, List.set_cons_succ, List.set_cons_zero]) | ((refine wpQuiet_load_mid (by first | rfl | (simp [Region.wanted]; done)) 24 _ rfl b (o + k * 32) (by rfl) vs _ hry Tryd.underlying24 rfl H_hvsi.out ?_); simp only [Act.put, List.setIfInBounds_toArray, List.set_cons_succ, List.set_cons_zero]) | ((refine wpQuiet_load_mid (by first | rfl | (simp [Region.wanted]; done)) 24 _ rfl b (o + i * 32) (by rfl) us _ hrx Tryd.underlying24 rfl H_husi.out ?_); simp only [Act.put, List.setIfInBounds_toArray, List.set_cons_succ, List.set_cons_zero]) | ((refine wpQuiet_load_mid (by first | rfl | (simp [Region.wanted]; done)) 24 _ rfl b (o + k * 32) (by rfl) vs _ hry Tryd.underlying24 rfl H_hvsi.out ?_); simp only [Act.put, List.setIfInBounds_toArray, List.set_cons_succ, List.set_cons_zero]) | (go_big_quiet_step ((first | (go_at_call 29; with_reducible exact calls_on (H_hcm'.out _))))))
            refine wpQuiet_nil ?_
            intro w12 hc12
            have hb12 : Below w.heap.size w w12 := bchain (by repeat' (first | with_reducible exact hb11 | with_reducible refine Below.drew ?_ | with_reducible refine below_drewN ?_ _ | with_reducible refine Below.alloc ?_ (by have := hb11.size; first | (simp; done) | (simp; omega) | omega) _ | with_reducible refine Below.setCell ?_ (by first | (simp; done) | (simp; omega) | omega) _)) hc12
            clear hc12
            go_wp2_with fail
            go_ret
            exact ⟨by rw [H_hV.out]; rfl, hb12⟩
      · have hge : (n : Int) ≤ (k : Int) := by omega
        have hV := H_hr.out (sortB_of fun i hi => hall.out i (by have := H_hn.out; omega))
        have H_hV := Box.mk hV
        clear hV
        clear hlt
        go_wp2_with fail
        go_ret
        exact ⟨by rw [H_hV.out]; rfl, hbw⟩

end Go.Proofs.YtfabcdpmnbeflaaDoor

/- Root, Bit, Split: of the program and of the reference. -/
namespace Go.Proofs.YtfabcdpmnbeflaaDoor
set_option linter.unusedSimpArgs false
set_option linter.unusedVariables false
set_option linter.unnecessarySimpa false
open Go.RowKit
set_option maxRecDepth 100000

theorem chkZ_cases (l : List (List Int)) : chkZ l = 0 ∨ chkZ l = 4 ∨ chkZ l = 32 := by
  unfold chkZ
  split
  · simp
  · split <;> simp
theorem inc_of_chk {l : List (List Int)} (h : ∀ x ∈ l, IdIn x) (hc : chkZ l = 0) : IncL l ∧ l.length ≤ 60 := by
  unfold chkZ at hc
  by_cases h1 : 60 < l.length
  · rw [if_pos h1] at hc; omega
  · rw [if_neg h1] at hc
    by_cases h2 : sortB l = true
    · exact ⟨inc_of_sortB h h2, by omega⟩
    · rw [if_neg h2] at hc; omega
theorem chk_of_inc {l : List (List Int)} (h : IncL l) (hl : l.length ≤ 60) : chkZ l = 0 := by
  unfold chkZ
  rw [if_neg (by omega), if_pos (sortB_of_inc h)]
/-- Root's answer. -/
def rootZ (l : List (List Int)) : List Int × Int := if chkZ l = 0 then (rootP l, 0) else (List.replicate 32 0, chkZ l)
theorem rootZ_id (l : List (List Int)) : IdIn (rootZ l).1 := by
  unfold rootZ
  split
  · exact rootP_id l
  · exact zeroIdIn
set_option maxHeartbeats 1000000 in
theorem Root_any (l : List (List Int)) (a : Option Addr) (n c : Nat) (w : World) (h : IdsIn w a c l) (hn : n = l.length) (hm : n ≤ maxLen) (hT : TabK w) :
    Calls Tryd.prog 11 #[.slice a n c] w fun e w' =>
      e = .returned (.tuple #[.agg (idC (rootZ l).1).toArray, .int .i64 (rootZ l).2]) ∧ Below w.heap.size w w' := by
  have hck := fun W (hI : IdsIn W a c l) => check_any l a n c W hI hn hm
  by_cases hz : chkZ l = 0
  · obtain ⟨hinc, hl⟩ := inc_of_chk h.ids hz
    have hro := root_ok l.length l (Nat.le_refl _) (by omega) hinc
    unfold RootOk GivesId at hro
    rw [← hn] at hro
    rw [hz] at hck
    rw [show rootZ l = (rootP l, 0) from by unfold rootZ; rw [if_pos hz]]
    obtain ⟨ds, hds⟩ : ∃ v, v = idC (rootP l) := ⟨_, rfl⟩
    have hdsl := idC_len (rootP_id l)
    have hdsi := idC_info (rootP_id l)
    have hdso := idC_one (rootP l)
    rw [← hds] at hdsl hdsi hdso
    have hdsr : ds.length = (List.replicate 32 (Value.int .u8 0)).length := by rw [hdsl]; rfl
    simp only [← hds] at hro ⊢
    have hI0 := Blk.newA w w.heap.size _ 24 (List.replicate 32 (Value.int .u8 0)) rfl rfl
    have H_hck := Box.mk hck
    have H_hro := Box.mk hro
    have H_hds := Box.mk hds
    have H_hdsl := Box.mk hdsl
    have H_hdsi := Box.mk hdsi
    have H_hdso := Box.mk hdso
    have H_hdsr := Box.mk hdsr
    have H_hn := Box.mk hn
    have H_hz := Box.mk hz
    have H_hinc := Box.mk hinc
    have H_hl := Box.mk hl
    have H_h := Box.mk h
    have H_hT := Box.mk hT
    clear hck hro hds hdsl hdsi hdso hdsr hn hz hinc hl h hT
    clear hm
    go_enter Tryd.func11, Tryd.ntmps11
    have hb0 := Below.refl w.heap.size w
    go_wp2_with fail
    with_reducible refine (H_hck.out _ (H_h.out.later ((Below.refl _ _).alloc (Nat.le_refl _) _))).mono ?_
    rintro e w1 ⟨rfl, hc1⟩
    have hI1 := hI0.later hc1
    have hb1 : Below w.heap.size w w1 := bchain (by repeat' (first | with_reducible exact hb0 | with_reducible refine Below.drew ?_ | with_reducible refine below_drewN ?_ _ | with_reducible refine Below.alloc ?_ (by have := hb0.size; first | (simp; done) | (simp; omega) | omega) _ | with_reducible refine Below.setCell ?_ (by first | (simp; done) | (simp; omega) | omega) _)) hc1
    clear hc1 hI0
    go_wp2_with fail
    with_reducible refine (H_hro.out _ _ _ (H_h.out.later hb1) (H_hT.out.later hb1)).mono ?_
    rintro e w2 ⟨rfl, hc2⟩
    have hI2 := hI1.later hc2
    have hb2 : Below w.heap.size w w2 := bchain (by repeat' (first | with_reducible exact hb1 | with_reducible refine Below.drew ?_ | with_reducible refine below_drewN ?_ _ | with_reducible refine Below.alloc ?_ (by have := hb1.size; first | (simp; done) | (simp; omega) | omega) _ | with_reducible refine Below.setCell ?_ (by first | (simp; done) | (simp; omega) | omega) _)) hc2
    clear hc2 hI1
    go_wp2_with (refine wpList_store_blk rfl 24 _ _ rfl w.heap.size (by rfl) 24 _ ds (by rfl) hI2 H_hdsr.out H_hdsi.out H_hdso.out ?_; intro wz hBz hez; have Hz := Box.mk hez; clear hez)
    go_wp2_with fail
    have hbz : Below w.heap.size w wz := Hz.out ▸ below_setCells (by omega) _ _ _ hb2
    exact bodyPost_ret (results_blk2 (by rfl) _ _ w.heap.size 24 _ _ (.int .i64 0) rfl rfl hBz Tryd.underlying24 rfl H_hdsi.out) rfl ⟨rfl, hbz⟩
  · rw [show rootZ l = (List.replicate 32 0, chkZ l) from by unfold rootZ; rw [if_neg hz]]
    simp only [idC_zero]
    obtain ⟨er, her⟩ : ∃ er, chkZ l = er := ⟨_, rfl⟩
    rw [her] at hz
    simp only [her] at hck ⊢
    obtain ⟨V, hV⟩ : ∃ V, Ending.returned (.tuple #[.agg (List.replicate 32 (Value.int .u8 0)).toArray, .int .i64 er]) = V := ⟨_, rfl⟩
    rw [hV]
    have hzb : (er == 0) = false := by simpa using hz
    have hI0 := Blk.newA w w.heap.size _ 24 (List.replicate 32 (Value.int .u8 0)) rfl rfl
    have hzl : (List.replicate 32 (Value.int .u8 0)).length = (List.replicate 32 (Value.int .u8 0)).length := rfl
    have H_hck := Box.mk hck
    have H_hn := Box.mk hn
    have H_her := Box.mk her
    have H_h := Box.mk h
    have H_hT := Box.mk hT
    have H_hV := Box.mk hV
    clear hck hn her h hT hV
    clear hm
    go_enter Tryd.func11, Tryd.ntmps11
    have hb0 := Below.refl w.heap.size w
    go_wp2_with fail
    with_reducible refine (H_hck.out _ (H_h.out.later ((Below.refl _ _).alloc (Nat.le_refl _) _))).mono ?_
    rintro e w1 ⟨rfl, hc1⟩
    have hI1 := hI0.later hc1
    have hb1 : Below w.heap.size w w1 := bchain (by repeat' (first | with_reducible exact hb0 | with_reducible refine Below.drew ?_ | with_reducible refine below_drewN ?_ _ | with_reducible refine Below.alloc ?_ (by have := hb0.size; first | (simp; done) | (simp; omega) | omega) _ | with_reducible refine Below.setCell ?_ (by first | (simp; done) | (simp; omega) | omega) _)) hc1
    clear hc1 hI0
    go_wp2_with (refine wpList_store_blk rfl 24 _ _ rfl w.heap.size (by rfl) 24 _ (List.replicate 32 (Value.int .u8 0)) (by rfl) hI1 (by rfl) info32r oneCell_zeros ?_; intro wz hBz hez; have Hz := Box.mk hez; clear hez)
    go_wp2_with fail
    have hbz : Below w.heap.size w wz := Hz.out ▸ below_setCells (by omega) _ _ _ hb1
    refine bodyPost_ret (results_blk2 (by rfl) _ _ w.heap.size 24 _ _ (.int .i64 er) rfl rfl hBz Tryd.underlying24 rfl info32r) rfl ⟨?_, hbz⟩
    exact H_hV.out
set_option maxHeartbeats 1000000 in
theorem rRoot_any (l : List (List Int)) (a : Option Addr) (n c : Nat) (w : World) (h : IdsIn w a c l) (hn : n = l.length) (hm : n ≤ maxLen) :
    Calls Tryd.prog 12 #[.slice a n c] w fun e w' =>
      e = .returned (.tuple #[.agg (idC (rootZ l).1).toArray, .int .i64 (rootZ l).2]) ∧ Below w.heap.size w w' := by
  have hck := fun W (hI : IdsIn W a c l) => rcheck_any l a n c W hI hn hm
  by_cases hz : chkZ l = 0
  · obtain ⟨hinc, hl⟩ := inc_of_chk h.ids hz
    have hro := rof_ok l.length l (Nat.le_refl _) (by omega) hinc
    unfold ROfOk at hro
    rw [← hn] at hro
    rw [hz] at hck
    rw [show rootZ l = (rootP l, 0) from by unfold rootZ; rw [if_pos hz]]
    obtain ⟨ds, hds⟩ : ∃ v, v = idC (rootP l) := ⟨_, rfl⟩
    have hdsl := idC_len (rootP_id l)
    have hdsi := idC_info (rootP_id l)
    have hdso := idC_one (rootP l)
    rw [← hds] at hdsl hdsi hdso
    have hdsr : ds.length = (List.replicate 32 (Value.int .u8 0)).length := by rw [hdsl]; rfl
    simp only [← hds] at hro ⊢
    have hI0 := Blk.newA w w.heap.size _ 24 (List.replicate 32 (Value.int .u8 0)) rfl rfl
    have H_hck := Box.mk hck
    have H_hro := Box.mk hro
    have H_hds := Box.mk hds
    have H_hdsl := Box.mk hdsl
    have H_hdsi := Box.mk hdsi
    have H_hdso := Box.mk hdso
    have H_hdsr := Box.mk hdsr
    have H_hn := Box.mk hn
    have H_hz := Box.mk hz
    have H_hinc := Box.mk hinc
    have H_hl := Box.mk hl
    have H_h := Box.mk h
    clear hck hro hds hdsl hdsi hdso hdsr hn hz hinc hl h
    clear hm
    go_enter Tryd.func12, Tryd.ntmps12
    have hb0 := Below.refl w.heap.size w
    go_wp2_with fail
    with_reducible refine (H_hck.out _ (H_h.out.later ((Below.refl _ _).alloc (Nat.le_refl _) _))).mono ?_
    rintro e w1 ⟨rfl, hc1⟩
    have hI1 := hI0.later hc1
    have hb1 : Below w.heap.size w w1 := bchain (by repeat' (first | with_reducible exact hb0 | with_reducible refine Below.drew ?_ | with_reducible refine below_drewN ?_ _ | with_reducible refine Below.alloc ?_ (by have := hb0.size; first | (simp; done) | (simp; omega) | omega) _ | with_reducible refine Below.setCell ?_ (by first | (simp; done) | (simp; omega) | omega) _)) hc1
    clear hc1 hI0
    go_wp2_with fail
    with_reducible refine (H_hro.out _ _ _ (H_h.out.later hb1)).mono ?_
    rintro e w2 ⟨rfl, hc2⟩
    have hI2 := hI1.later hc2
    have hb2 : Below w.heap.size w w2 := bchain (by repeat' (first | with_reducible exact hb1 | with_reducible refine Below.drew ?_ | with_reducible refine below_drewN ?_ _ | with_reducible refine Below.alloc ?_ (by have := hb1.size; first | (simp; done) | (simp; omega) | omega) _ | with_reducible refine Below.setCell ?_ (by first | (simp; done) | (simp; omega) | omega) _)) hc2
    clear hc2 hI1
    go_wp2_with (refine wpList_store_blk rfl 24 _ _ rfl w.heap.size (by rfl) 24 _ ds (by rfl) hI2 H_hdsr.out H_hdsi.out H_hdso.out ?_; intro wz hBz hez; have Hz := Box.mk hez; clear hez)
    go_wp2_with fail
    have hbz : Below w.heap.size w wz := Hz.out ▸ below_setCells (by omega) _ _ _ hb2
    exact bodyPost_ret (results_blk2 (by rfl) _ _ w.heap.size 24 _ _ (.int .i64 0) rfl rfl hBz Tryd.underlying24 rfl H_hdsi.out) rfl ⟨rfl, hbz⟩
  · rw [show rootZ l = (List.replicate 32 0, chkZ l) from by unfold rootZ; rw [if_neg hz]]
    simp only [idC_zero]
    obtain ⟨er, her⟩ : ∃ er, chkZ l = er := ⟨_, rfl⟩
    rw [her] at hz
    simp only [her] at hck ⊢
    obtain ⟨V, hV⟩ : ∃ V, Ending.returned (.tuple #[.agg (List.replicate 32 (Value.int .u8 0)).toArray, .int .i64 er]) = V := ⟨_, rfl⟩
    rw [hV]
    have hzb : (er == 0) = false := by simpa using hz
    have hI0 := Blk.newA w w.heap.size _ 24 (List.replicate 32 (Value.int .u8 0)) rfl rfl
    have hzl : (List.replicate 32 (Value.int .u8 0)).length = (List.replicate 32 (Value.int .u8 0)).length := rfl
    have H_hck := Box.mk hck
    have H_hn := Box.mk hn
    have H_her := Box.mk her
    have H_h := Box.mk h
    have H_hV := Box.mk hV
    clear hck hn her h hV
    clear hm
    go_enter Tryd.func12, Tryd.ntmps12
    have hb0 := Below.refl w.heap.size w
    go_wp2_with fail
    with_reducible refine (H_hck.out _ (H_h.out.later ((Below.refl _ _).alloc (Nat.le_refl _) _))).mono ?_
    rintro e w1 ⟨rfl, hc1⟩
    have hI1 := hI0.later hc1
    have hb1 : Below w.heap.size w w1 := bchain (by repeat' (first | with_reducible exact hb0 | with_reducible refine Below.drew ?_ | with_reducible refine below_drewN ?_ _ | with_reducible refine Below.alloc ?_ (by have := hb0.size; first | (simp; done) | (simp; omega) | omega) _ | with_reducible refine Below.setCell ?_ (by first | (simp; done) | (simp; omega) | omega) _)) hc1
    clear hc1 hI0
    go_wp2_with (refine wpList_store_blk rfl 24 _ _ rfl w.heap.size (by rfl) 24 _ (List.replicate 32 (Value.int .u8 0)) (by rfl) hI1 (by rfl) info32r oneCell_zeros ?_; intro wz hBz hez; have Hz := Box.mk hez; clear hez)
    go_wp2_with fail
    have hbz : Below w.heap.size w wz := Hz.out ▸ below_setCells (by omega) _ _ _ hb1
    refine bodyPost_ret (results_blk2 (by rfl) _ _ w.heap.size 24 _ _ (.int .i64 er) rfl rfl hBz Tryd.underlying24 rfl info32r) rfl ⟨?_, hbz⟩
    exact H_hV.out
/-- Bit's answer. -/
def bitZ (x : List Int) (n : Int) : Bool × Int := if n < 0 ∨ 256 ≤ n then (false, 2) else (bitB x n.toNat, 0)
theorem Bit_any (x : List Int) (n : Int) (w : World) (hx : IdIn x) (hn : (Lit.int .i64 n).wf = true) :
    Calls Tryd.prog 9 #[.agg (idC x).toArray, .int .i64 n] w fun e w' =>
      e = .returned (.tuple #[.bool (bitZ x n).1, .int .i64 (bitZ x n).2]) ∧ Below w.heap.size w w' := by
  clear hn
  obtain ⟨us, hus⟩ : ∃ v, v = idC (x) := ⟨_, rfl⟩
  have husl := idC_len hx
  have husi := idC_info hx
  have huso := idC_one (x)
  rw [← hus] at husl husi huso
  have husr : us.length = (List.replicate 32 (Value.int .u8 0)).length := by rw [husl]; rfl
  rw [← hus]
  have hI0 := Blk.newA w w.heap.size _ 24 us rfl rfl
  rcases (by omega : n < 0 ∨ 256 ≤ n ∨ (0 ≤ n ∧ n < 256)) with h | h | h
  · rw [show bitZ x n = (false, 2) from by unfold bitZ; rw [if_pos (.inl h)]]
    have H_hus := Box.mk hus
    have H_husl := Box.mk husl
    have H_husi := Box.mk husi
    have H_huso := Box.mk huso
    have H_husr := Box.mk husr
    have H_hI0 := Box.mk hI0
    have H_hx := Box.mk hx
    clear hus husl husi huso husr hI0 hx
    go_enter Tryd.func9, Tryd.ntmps9
    have hb0 := Below.refl w.heap.size w
    go_wp2_with fail
    go_ret2
    exact ⟨rfl, by repeat' (first | with_reducible exact hb0 | with_reducible refine Below.drew ?_ | with_reducible refine below_drewN ?_ _ | with_reducible refine Below.alloc ?_ (by have := hb0.size; first | (simp; done) | (simp; omega) | omega) _ | with_reducible refine Below.setCell ?_ (by first | (simp; done) | (simp; omega) | omega) _)⟩
  · rw [show bitZ x n = (false, 2) from by unfold bitZ; rw [if_pos (.inr h)]]
    have H_hus := Box.mk hus
    have H_husl := Box.mk husl
    have H_husi := Box.mk husi
    have H_huso := Box.mk huso
    have H_husr := Box.mk husr
    have H_hI0 := Box.mk hI0
    have H_hx := Box.mk hx
    clear hus husl husi huso husr hI0 hx
    go_enter Tryd.func9, Tryd.ntmps9
    have hb0 := Below.refl w.heap.size w
    go_wp2_with fail
    go_ret2
    exact ⟨rfl, by repeat' (first | with_reducible exact hb0 | with_reducible refine Below.drew ?_ | with_reducible refine below_drewN ?_ _ | with_reducible refine Below.alloc ?_ (by have := hb0.size; first | (simp; done) | (simp; omega) | omega) _ | with_reducible refine Below.setCell ?_ (by first | (simp; done) | (simp; omega) | omega) _)⟩
  · obtain ⟨h0, h1⟩ := h
    obtain ⟨i, rfl⟩ : ∃ i : Nat, n = i := ⟨n.toNat, by omega⟩
    rw [show bitZ x i = (bitB x i, 0) from by unfold bitZ; rw [if_neg (by omega)]; rfl]
    have hc := fun W => bit_any x i W hx (by omega)
    obtain ⟨bb, hbb⟩ : ∃ bb, bitB x i = bb := ⟨_, rfl⟩
    simp only [hbb, ← hus] at hc ⊢
    have H_hus := Box.mk hus
    have H_husl := Box.mk husl
    have H_husi := Box.mk husi
    have H_huso := Box.mk huso
    have H_husr := Box.mk husr
    have H_hI0 := Box.mk hI0
    have H_hx := Box.mk hx
    have H_hc := Box.mk hc
    have H_hbb := Box.mk hbb
    clear hus husl husi huso husr hI0 hx hc hbb
    go_enter Tryd.func9, Tryd.ntmps9
    have hb0 := Below.refl w.heap.size w
    go_wp2_with (refine wpList_load_blk rfl 24 _ rfl w.heap.size (by rfl) 24 us _ H_hI0.out Tryd.underlying24 rfl H_husi.out ?_)
    with_reducible refine (H_hc.out _).mono ?_
    rintro e w1 ⟨rfl, hc1⟩
    have hb1 : Below w.heap.size w w1 := bchain (by repeat' (first | with_reducible exact hb0 | with_reducible refine Below.drew ?_ | with_reducible refine below_drewN ?_ _ | with_reducible refine Below.alloc ?_ (by have := hb0.size; first | (simp; done) | (simp; omega) | omega) _ | with_reducible refine Below.setCell ?_ (by first | (simp; done) | (simp; omega) | omega) _)) hc1
    go_wp2_with fail
    go_ret2
    exact ⟨rfl, by repeat' (first | with_reducible exact hb1 | with_reducible refine Below.drew ?_ | with_reducible refine below_drewN ?_ _ | with_reducible refine Below.alloc ?_ (by have := hb1.size; first | (simp; done) | (simp; omega) | omega) _ | with_reducible refine Below.setCell ?_ (by first | (simp; done) | (simp; omega) | omega) _)⟩
theorem rBit_any (x : List Int) (n : Int) (w : World) (hx : IdIn x) (hn : (Lit.int .i64 n).wf = true) :
    Calls Tryd.prog 10 #[.agg (idC x).toArray, .int .i64 n] w fun e w' =>
      e = .returned (.tuple #[.bool (bitZ x n).1, .int .i64 (bitZ x n).2]) ∧ Below w.heap.size w w' := by
  clear hn
  obtain ⟨us, hus⟩ : ∃ v, v = idC (x) := ⟨_, rfl⟩
  have husl := idC_len hx
  have husi := idC_info hx
  have huso := idC_one (x)
  rw [← hus] at husl husi huso
  have husr : us.length = (List.replicate 32 (Value.int .u8 0)).length := by rw [husl]; rfl
  rw [← hus]
  have hI0 := Blk.newA w w.heap.size _ 24 us rfl rfl
  rcases (by omega : n < 0 ∨ 256 ≤ n ∨ (0 ≤ n ∧ n < 256)) with h | h | h
  · rw [show bitZ x n = (false, 2) from by unfold bitZ; rw [if_pos (.inl h)]]
    have H_hus := Box.mk hus
    have H_husl := Box.mk husl
    have H_husi := Box.mk husi
    have H_huso := Box.mk huso
    have H_husr := Box.mk husr
    have H_hI0 := Box.mk hI0
    have H_hx := Box.mk hx
    clear hus husl husi huso husr hI0 hx
    go_enter Tryd.func10, Tryd.ntmps10
    have hb0 := Below.refl w.heap.size w
    go_wp2_with fail
    go_ret2
    exact ⟨rfl, by repeat' (first | with_reducible exact hb0 | with_reducible refine Below.drew ?_ | with_reducible refine below_drewN ?_ _ | with_reducible refine Below.alloc ?_ (by have := hb0.size; first | (simp; done) | (simp; omega) | omega) _ | with_reducible refine Below.setCell ?_ (by first | (simp; done) | (simp; omega) | omega) _)⟩
  · rw [show bitZ x n = (false, 2) from by unfold bitZ; rw [if_pos (.inr h)]]
    have H_hus := Box.mk hus
    have H_husl := Box.mk husl
    have H_husi := Box.mk husi
    have H_huso := Box.mk huso
    have H_husr := Box.mk husr
    have H_hI0 := Box.mk hI0
    have H_hx := Box.mk hx
    clear hus husl husi huso husr hI0 hx
    go_enter Tryd.func10, Tryd.ntmps10
    have hb0 := Below.refl w.heap.size w
    go_wp2_with fail
    go_ret2
    exact ⟨rfl, by repeat' (first | with_reducible exact hb0 | with_reducible refine Below.drew ?_ | with_reducible refine below_drewN ?_ _ | with_reducible refine Below.alloc ?_ (by have := hb0.size; first | (simp; done) | (simp; omega) | omega) _ | with_reducible refine Below.setCell ?_ (by first | (simp; done) | (simp; omega) | omega) _)⟩
  · obtain ⟨h0, h1⟩ := h
    obtain ⟨i, rfl⟩ : ∃ i : Nat, n = i := ⟨n.toNat, by omega⟩
    rw [show bitZ x i = (bitB x i, 0) from by unfold bitZ; rw [if_neg (by omega)]; rfl]
    have hc := fun W => rbit_any x i W hx (by omega)
    obtain ⟨bb, hbb⟩ : ∃ bb, bitB x i = bb := ⟨_, rfl⟩
    simp only [hbb, ← hus] at hc ⊢
    have H_hus := Box.mk hus
    have H_husl := Box.mk husl
    have H_husi := Box.mk husi
    have H_huso := Box.mk huso
    have H_husr := Box.mk husr
    have H_hI0 := Box.mk hI0
    have H_hx := Box.mk hx
    have H_hc := Box.mk hc
    have H_hbb := Box.mk hbb
    clear hus husl husi huso husr hI0 hx hc hbb
    go_enter Tryd.func10, Tryd.ntmps10
    have hb0 := Below.refl w.heap.size w
    go_wp2_with (refine wpList_load_blk rfl 24 _ rfl w.heap.size (by rfl) 24 us _ H_hI0.out Tryd.underlying24 rfl H_husi.out ?_)
    with_reducible refine (H_hc.out _).mono ?_
    rintro e w1 ⟨rfl, hc1⟩
    have hb1 : Below w.heap.size w w1 := bchain (by repeat' (first | with_reducible exact hb0 | with_reducible refine Below.drew ?_ | with_reducible refine below_drewN ?_ _ | with_reducible refine Below.alloc ?_ (by have := hb0.size; first | (simp; done) | (simp; omega) | omega) _ | with_reducible refine Below.setCell ?_ (by first | (simp; done) | (simp; omega) | omega) _)) hc1
    go_wp2_with fail
    go_ret2
    exact ⟨rfl, by repeat' (first | with_reducible exact hb1 | with_reducible refine Below.drew ?_ | with_reducible refine below_drewN ?_ _ | with_reducible refine Below.alloc ?_ (by have := hb1.size; first | (simp; done) | (simp; omega) | omega) _ | with_reducible refine Below.setCell ?_ (by first | (simp; done) | (simp; omega) | omega) _)⟩

end Go.Proofs.YtfabcdpmnbeflaaDoor

/- Split: of the program and of the reference; lists of ids compared. -/
namespace Go.Proofs.YtfabcdpmnbeflaaDoor
set_option linter.unusedSimpArgs false
set_option linter.unusedVariables false
set_option linter.unnecessarySimpa false
open Go.RowKit
set_option maxRecDepth 100000

/-- Split's answer: the bit, the zeros, the ones, the error. -/
structure SplitA where
  n : Nat
  z : List (List Int)
  o : List (List Int)
  er : Int
def splitZ (l : List (List Int)) : SplitA := if chkZ l ≠ 0 then ⟨0, [], [], chkZ l⟩ else if l.length < 2 then ⟨0, [], [], 6⟩ else ⟨splitN l, zerosL l (splitN l), onesL l (splitN l), 0⟩
def SplitR (w : World) (s : SplitA) (e : Ending) : Prop := ∃ a1 c1 a2 c2, e = .returned (.tuple #[.int .i64 s.n, .slice a1 s.z.length c1, .slice a2 s.o.length c2, .int .i64 s.er]) ∧ IdsIn w a1 c1 s.z ∧ IdsIn w a2 c2 s.o
theorem OwnX.idsIn {w : World} {B : Nat} {a : Option Addr} {n c : Nat} {l : List (List Int)} (h : OwnX w B 24 32 (.slice a n c) n (idsC l)) (hn : n = l.length) (hl : ∀ x ∈ l, IdIn x) : IdsIn w a c l := by
  obtain ⟨_, _, hv, h1, h2⟩ := h.cells
  cases hv
  exact ⟨h2, hl, by omega⟩

set_option maxHeartbeats 2000000 in
theorem Split_any (l : List (List Int)) (a : Option Addr) (n c : Nat) (w : World) (h : IdsIn w a c l) (hn : n = l.length) (hm : n ≤ maxLen) :
    Calls Tryd.prog 13 #[.slice a n c] w fun e w' =>
      SplitR w' (splitZ l) e ∧ Below w.heap.size w w' := by
  have hck := fun W (hI : IdsIn W a c l) => check_any l a n c W hI hn hm
  by_cases hz : chkZ l = 0
  · obtain ⟨hinc, hl⟩ := inc_of_chk h.ids hz
    rw [hz] at hck
    by_cases h2 : l.length < 2
    · rw [show splitZ l = ⟨0, [], [], 6⟩ from by unfold splitZ; rw [if_neg (by omega), if_pos h2]]
      have hn2 : (n : Int) < 2 := by omega
      have hnn : n < 2 := by omega
      have H_hck := Box.mk hck
      have H_h := Box.mk h
      have H_hinc := Box.mk hinc
      have H_hl := Box.mk hl
      have H_hz := Box.mk hz
      have H_hn := Box.mk hn
      clear hck h hinc hl hz hn
      clear hm
      go_enter Tryd.func13, Tryd.ntmps13
      have hb0 := Below.refl w.heap.size w
      go_wp2_with fail
      with_reducible refine (H_hck.out _ H_h.out).mono ?_
      rintro e w1 ⟨rfl, hc1⟩
      have hb1 : Below w.heap.size w w1 := bchain (by repeat' (first | with_reducible exact hb0 | with_reducible refine Below.drew ?_ | with_reducible refine below_drewN ?_ _ | with_reducible refine Below.alloc ?_ (by have := hb0.size; first | (simp; done) | (simp; omega) | omega) _ | with_reducible refine Below.setCell ?_ (by first | (simp; done) | (simp; omega) | omega) _)) hc1
      clear hc1 hb0
      go_wp2_with fail
      exact bodyPost_ret (v := .tuple #[.int .i64 0, .slice none 0 0, .slice none 0 0, .int .i64 6]) (by simp [results, Tryd.results13, go_sem, *]) rfl ⟨⟨none, 0, none, 0, rfl, .nil _ _ _, .nil _ _ _⟩, (by repeat' (first | with_reducible exact hb1 | with_reducible refine Below.drew ?_ | with_reducible refine below_drewN ?_ _ | with_reducible refine Below.alloc ?_ (by have := hb1.size; first | (simp; done) | (simp; omega) | omega) _ | with_reducible refine Below.setCell ?_ (by first | (simp; done) | (simp; omega) | omega) _))⟩
    · obtain ⟨hN, cat, ez, eo, zl, ol, sum, iz, io, ap, root⟩ := hinc.cutF (by omega)
      rw [show splitZ l = ⟨splitN l, zerosL l (splitN l), onesL l (splitN l), 0⟩ from by unfold splitZ; rw [if_neg (by omega), if_neg h2]]
      obtain ⟨k, hk⟩ : ∃ k, l.length = k + 1 := ⟨l.length - 1, by omega⟩
      obtain ⟨b, of, rfl, hbl, hr⟩ := h.row (by omega)
      have hx : IdIn (pc l 0) := h.ids _ (pc_mem (by omega))
      have hy : IdIn (pc l k) := h.ids _ (pc_mem (by omega))
      have hr0 := hr 0 (by omega)
      have hrk := hr k (by omega)
      rw [Nat.zero_mul, Nat.add_zero] at hr0
      rw [show l.length - 1 = k from by omega] at ap
      have hap := fun W => apart_any (pc l 0) (pc l k) W hx hy
      rw [ap] at hap
      have hcut := fun W (hI : IdsIn W (some ⟨b, of, none⟩) c l) => cut_any l (some ⟨b, of, none⟩) n c (splitN l) W hI hn (by omega) hN cat
      obtain ⟨z, hzz⟩ : ∃ z, zerosL l (splitN l) = z := ⟨_, rfl⟩
      obtain ⟨o, hoo⟩ : ∃ o, onesL l (splitN l) = o := ⟨_, rfl⟩
      obtain ⟨N, hNN⟩ : ∃ N, splitN l = N := ⟨_, rfl⟩
      rw [hzz, hoo] at hcut sum
      rw [hzz] at iz
      rw [hoo] at io
      rw [hzz, hoo]
      rw [hNN] at hN hap hcut ⊢
      obtain ⟨us, hus⟩ : ∃ v, v = idC (pc l 0) := ⟨_, rfl⟩
      have husl := idC_len hx
      have husi := idC_info hx
      have huso := idC_one (pc l 0)
      rw [← hus] at husl husi huso
      have husr : us.length = (List.replicate 32 (Value.int .u8 0)).length := by rw [husl]; rfl
      obtain ⟨vs, hvs⟩ : ∃ v, v = idC (pc l k) := ⟨_, rfl⟩
      have hvsl := idC_len hy
      have hvsi := idC_info hy
      have hvso := idC_one (pc l k)
      rw [← hvs] at hvsl hvsi hvso
      have hvsr : vs.length = (List.replicate 32 (Value.int .u8 0)).length := by rw [hvsl]; rfl
      simp only [← hus, ← hvs] at hap hr0 hrk
      have hkI : (k : Int) ≤ 1000 := by omega
      have hkn : (k : Int) < (n : Int) := by omega
      have hk1 : (n : Int) - 1 = (k : Int) := by omega
      have hn2 : (2 : Int) ≤ (n : Int) := by omega
      have hnn : 2 ≤ n := by omega
      have hz6 : z.length ≤ 1000 := by omega
      have ho6 : o.length ≤ 1000 := by omega
      have H_hus := Box.mk hus
      have H_husl := Box.mk husl
      have H_husi := Box.mk husi
      have H_huso := Box.mk huso
      have H_husr := Box.mk husr
      have H_hvs := Box.mk hvs
      have H_hvsl := Box.mk hvsl
      have H_hvsi := Box.mk hvsi
      have H_hvso := Box.mk hvso
      have H_hvsr := Box.mk hvsr
      have H_hap := Box.mk hap
      have H_hcut := Box.mk hcut
      have H_h := Box.mk h
      have H_hr := Box.mk hr
      have H_hx := Box.mk hx
      have H_hy := Box.mk hy
      have H_hn := Box.mk hn
      have H_hk := Box.mk hk
      have H_cat := Box.mk cat
      have H_ez := Box.mk ez
      have H_eo := Box.mk eo
      have H_zl := Box.mk zl
      have H_ol := Box.mk ol
      have H_sum := Box.mk sum
      have H_iz := Box.mk iz
      have H_io := Box.mk io
      have H_ap := Box.mk ap
      have H_root := Box.mk root
      have H_hzz := Box.mk hzz
      have H_hoo := Box.mk hoo
      have H_hNN := Box.mk hNN
      have H_hinc := Box.mk hinc
      have H_hl := Box.mk hl
      have H_hz := Box.mk hz
      have H_hck := Box.mk hck
      have H_hz6 := Box.mk hz6
      have H_ho6 := Box.mk ho6
      clear hus husl husi huso husr hvs hvsl hvsi hvso hvsr hap hcut h hr hx hy hn hk cat ez eo zl ol sum iz io ap root hzz hoo hNN hinc hl hz hck hz6 ho6
      clear hm h2
      go_enter Tryd.func13, Tryd.ntmps13
      have hb0 := Below.refl w.heap.size w
      go_wp2_with fail
      with_reducible refine (H_hck.out _ H_h.out).mono ?_
      rintro e w1 ⟨rfl, hc1⟩
      have hb1 : Below w.heap.size w w1 := bchain (by repeat' (first | with_reducible exact hb0 | with_reducible refine Below.drew ?_ | with_reducible refine below_drewN ?_ _ | with_reducible refine Below.alloc ?_ (by have := hb0.size; first | (simp; done) | (simp; omega) | omega) _ | with_reducible refine Below.setCell ?_ (by first | (simp; done) | (simp; omega) | omega) _)) hc1
      clear hc1 hb0
      go_wp2_with fail
      refine wp_gen fun w2 hc2 => ?_
      have hb2 : Below w.heap.size w w2 := bchain (by repeat' (first | with_reducible exact hb1 | with_reducible refine Below.drew ?_ | with_reducible refine below_drewN ?_ _ | with_reducible refine Below.alloc ?_ (by have := hb1.size; first | (simp; done) | (simp; omega) | omega) _ | with_reducible refine Below.setCell ?_ (by first | (simp; done) | (simp; omega) | omega) _)) hc2
      have hr1 := rangeAt_later hr0 hb2
      have hr2 := rangeAt_later hrk hb2
      clear hc2
      refine wp_region_on (by kernel_rfl) (by kernel_rfl) ?_
      repeat (first | ((refine wpQuiet_load_mid (by first | rfl | (simp [Region.wanted]; done)) 24 _ rfl b of (by rfl) us _ hr1 Tryd.underlying24 rfl H_husi.out ?_); simp only [Act.put, List.setIfInBounds_toArray, List.set_cons_succ, List.set_cons_zero]) | ((refine wpQuiet_load_mid (by first | rfl | (simp [Region.wanted]; done)) 24 _ rfl b (of + k * 32) (by rfl) vs _ hr2 Tryd.underlying24 rfl H_hvsi.out ?_); simp only [Act.put, List.setIfInBounds_toArray, List.set_cons_succ, List.set_cons_zero]) | (go_big_quiet_step ((first | (go_at_call 34; with_reducible exact calls_on (H_hap.out _))))))
      refine wpQuiet_nil ?_
      intro w3 hc3
      have hb3 : Below w.heap.size w w3 := bchain (by repeat' (first | with_reducible exact hb2 | with_reducible refine Below.drew ?_ | with_reducible refine below_drewN ?_ _ | with_reducible refine Below.alloc ?_ (by have := hb2.size; first | (simp; done) | (simp; omega) | omega) _ | with_reducible refine Below.setCell ?_ (by first | (simp; done) | (simp; omega) | omega) _)) hc3
      clear hc3 hr1 hr2
      go_wp2_with fail
      with_reducible refine (H_hcut.out _ (H_h.out.later hb3)).mono ?_
      rintro e w4 ⟨⟨a1, a2, c2, rfl, hZ, hO⟩, hc4⟩
      have hb4 : Below w.heap.size w w4 := bchain (by repeat' (first | with_reducible exact hb3 | with_reducible refine Below.drew ?_ | with_reducible refine below_drewN ?_ _ | with_reducible refine Below.alloc ?_ (by have := hb3.size; first | (simp; done) | (simp; omega) | omega) _ | with_reducible refine Below.setCell ?_ (by first | (simp; done) | (simp; omega) | omega) _)) hc4
      clear hc4
      go_wp2_with fail
      with_reducible refine (cloneIds_any z a1 z.length z.length _ hZ rfl H_hz6.out).mono ?_
      rintro e w5 ⟨a5, c5, rfl, o5, hc5⟩
      have hO5 := hO.later hc5
      have hb5 : Below w.heap.size w w5 := bchain (by repeat' (first | with_reducible exact hb4 | with_reducible refine Below.drew ?_ | with_reducible refine below_drewN ?_ _ | with_reducible refine Below.alloc ?_ (by have := hb4.size; first | (simp; done) | (simp; omega) | omega) _ | with_reducible refine Below.setCell ?_ (by first | (simp; done) | (simp; omega) | omega) _)) hc5
      clear hc5 hO hZ
      go_wp2_with fail
      with_reducible refine (cloneIds_any o a2 o.length c2 _ hO5 rfl H_ho6.out).mono ?_
      rintro e w6 ⟨a6, c6, rfl, o6, hc6⟩
      have o5' := o5.later hc6
      have hb6 : Below w.heap.size w w6 := bchain (by repeat' (first | with_reducible exact hb5 | with_reducible refine Below.drew ?_ | with_reducible refine below_drewN ?_ _ | with_reducible refine Below.alloc ?_ (by have := hb5.size; first | (simp; done) | (simp; omega) | omega) _ | with_reducible refine Below.setCell ?_ (by first | (simp; done) | (simp; omega) | omega) _)) hc6
      clear hc6 hO5 o5
      go_wp2_with fail
      exact bodyPost_ret (v := .tuple #[.int .i64 N, .slice a5 z.length c5, .slice a6 o.length c6, .int .i64 0]) (by simp [results, Tryd.results13, go_sem, *]) rfl ⟨⟨a5, c5, a6, c6, rfl, o5'.idsIn rfl H_iz.out.ids, o6.idsIn rfl H_io.out.ids⟩, (by repeat' (first | with_reducible exact hb6 | with_reducible refine Below.drew ?_ | with_reducible refine below_drewN ?_ _ | with_reducible refine Below.alloc ?_ (by have := hb6.size; first | (simp; done) | (simp; omega) | omega) _ | with_reducible refine Below.setCell ?_ (by first | (simp; done) | (simp; omega) | omega) _))⟩
  · rw [show splitZ l = ⟨0, [], [], chkZ l⟩ from by unfold splitZ; rw [if_pos hz]]
    obtain ⟨er, her⟩ : ∃ er, chkZ l = er := ⟨_, rfl⟩
    rw [her] at hz
    simp only [her] at hck ⊢
    have hzb : (er == 0) = false := by simpa using hz
    have H_hck := Box.mk hck
    have H_hn := Box.mk hn
    have H_her := Box.mk her
    have H_h := Box.mk h
    clear hck hn her h
    clear hm
    go_enter Tryd.func13, Tryd.ntmps13
    have hb0 := Below.refl w.heap.size w
    go_wp2_with fail
    with_reducible refine (H_hck.out _ H_h.out).mono ?_
    rintro e w1 ⟨rfl, hc1⟩
    have hb1 : Below w.heap.size w w1 := bchain (by repeat' (first | with_reducible exact hb0 | with_reducible refine Below.drew ?_ | with_reducible refine below_drewN ?_ _ | with_reducible refine Below.alloc ?_ (by have := hb0.size; first | (simp; done) | (simp; omega) | omega) _ | with_reducible refine Below.setCell ?_ (by first | (simp; done) | (simp; omega) | omega) _)) hc1
    clear hc1 hb0
    go_wp2_with fail
    exact bodyPost_ret (v := .tuple #[.int .i64 0, .slice none 0 0, .slice none 0 0, .int .i64 er]) (by simp [results, Tryd.results13, go_sem, *]) rfl ⟨⟨none, 0, none, 0, rfl, .nil _ _ _, .nil _ _ _⟩, (by repeat' (first | with_reducible exact hb1 | with_reducible refine Below.drew ?_ | with_reducible refine below_drewN ?_ _ | with_reducible refine Below.alloc ?_ (by have := hb1.size; first | (simp; done) | (simp; omega) | omega) _ | with_reducible refine Below.setCell ?_ (by first | (simp; done) | (simp; omega) | omega) _))⟩

set_option maxHeartbeats 2000000 in
theorem rSplit_any (l : List (List Int)) (a : Option Addr) (n c : Nat) (w : World) (h : IdsIn w a c l) (hn : n = l.length) (hm : n ≤ maxLen) :
    Calls Tryd.prog 14 #[.slice a n c] w fun e w' =>
      SplitR w' (splitZ l) e ∧ Below w.heap.size w w' := by
  have hck := fun W (hI : IdsIn W a c l) => rcheck_any l a n c W hI hn hm
  by_cases hz : chkZ l = 0
  · obtain ⟨hinc, hl⟩ := inc_of_chk h.ids hz
    rw [hz] at hck
    by_cases h2 : l.length < 2
    · rw [show splitZ l = ⟨0, [], [], 6⟩ from by unfold splitZ; rw [if_neg (by omega), if_pos h2]]
      have hn2 : (n : Int) < 2 := by omega
      have hnn : n < 2 := by omega
      have H_hck := Box.mk hck
      have H_h := Box.mk h
      have H_hinc := Box.mk hinc
      have H_hl := Box.mk hl
      have H_hz := Box.mk hz
      have H_hn := Box.mk hn
      clear hck h hinc hl hz hn
      clear hm
      go_enter Tryd.func14, Tryd.ntmps14
      have hb0 := Below.refl w.heap.size w
      go_wp2_with fail
      with_reducible refine (H_hck.out _ H_h.out).mono ?_
      rintro e w1 ⟨rfl, hc1⟩
      have hb1 : Below w.heap.size w w1 := bchain (by repeat' (first | with_reducible exact hb0 | with_reducible refine Below.drew ?_ | with_reducible refine below_drewN ?_ _ | with_reducible refine Below.alloc ?_ (by have := hb0.size; first | (simp; done) | (simp; omega) | omega) _ | with_reducible refine Below.setCell ?_ (by first | (simp; done) | (simp; omega) | omega) _)) hc1
      clear hc1 hb0
      go_wp2_with fail
      exact bodyPost_ret (v := .tuple #[.int .i64 0, .slice none 0 0, .slice none 0 0, .int .i64 6]) (by simp [results, Tryd.results14, go_sem, *]) rfl ⟨⟨none, 0, none, 0, rfl, .nil _ _ _, .nil _ _ _⟩, (by repeat' (first | with_reducible exact hb1 | with_reducible refine Below.drew ?_ | with_reducible refine below_drewN ?_ _ | with_reducible refine Below.alloc ?_ (by have := hb1.size; first | (simp; done) | (simp; omega) | omega) _ | with_reducible refine Below.setCell ?_ (by first | (simp; done) | (simp; omega) | omega) _))⟩
    · have hs := (hinc.split (by omega)).1
      have iz := hinc.zeros (splitN l)
      have io := hinc.ones (splitN l)
      have hN := hs.1
      rw [show splitZ l = ⟨splitN l, zerosL l (splitN l), onesL l (splitN l), 0⟩ from by unfold splitZ; rw [if_neg (by omega), if_neg h2]]
      have hsp := fun W (hI : IdsIn W a c l) => rsplit_any l a n c (splitN l) W hI hn (by omega) hs
      have hcz := fun W (hI : IdsIn W a c l) => rcut_any l a n c (splitN l) false W hI hn (by omega) hN
      have hco := fun W (hI : IdsIn W a c l) => rcut_any l a n c (splitN l) true W hI hn (by omega) hN
      rw [cutL_zeros] at hcz
      rw [cutL_ones] at hco
      obtain ⟨z, hzz⟩ : ∃ z, zerosL l (splitN l) = z := ⟨_, rfl⟩
      obtain ⟨o, hoo⟩ : ∃ o, onesL l (splitN l) = o := ⟨_, rfl⟩
      obtain ⟨N, hNN⟩ : ∃ N, splitN l = N := ⟨_, rfl⟩
      rw [hzz] at iz hcz
      rw [hoo] at io hco
      rw [hzz, hoo]
      rw [hNN] at hN hsp hcz hco ⊢
      have hn2 : (2 : Int) ≤ (n : Int) := by omega
      have hnn : 2 ≤ n := by omega
      have H_h := Box.mk h
      have H_hn := Box.mk hn
      have H_iz := Box.mk iz
      have H_io := Box.mk io
      have H_hzz := Box.mk hzz
      have H_hoo := Box.mk hoo
      have H_hNN := Box.mk hNN
      have H_hinc := Box.mk hinc
      have H_hl := Box.mk hl
      have H_hz := Box.mk hz
      have H_hck := Box.mk hck
      have H_hsp := Box.mk hsp
      have H_hcz := Box.mk hcz
      have H_hco := Box.mk hco
      have H_hs := Box.mk hs
      have H_hN := Box.mk hN
      clear h hn iz io hzz hoo hNN hinc hl hz hck hsp hcz hco hs hN
      clear hm h2
      go_enter Tryd.func14, Tryd.ntmps14
      have hb0 := Below.refl w.heap.size w
      go_wp2_with fail
      with_reducible refine (H_hck.out _ H_h.out).mono ?_
      rintro e w1 ⟨rfl, hc1⟩
      have hb1 : Below w.heap.size w w1 := bchain (by repeat' (first | with_reducible exact hb0 | with_reducible refine Below.drew ?_ | with_reducible refine below_drewN ?_ _ | with_reducible refine Below.alloc ?_ (by have := hb0.size; first | (simp; done) | (simp; omega) | omega) _ | with_reducible refine Below.setCell ?_ (by first | (simp; done) | (simp; omega) | omega) _)) hc1
      clear hc1 hb0
      go_wp2_with fail
      with_reducible refine (H_hsp.out _ (H_h.out.later hb1)).mono ?_
      rintro e w2 ⟨rfl, hc2⟩
      have hb2 : Below w.heap.size w w2 := bchain (by repeat' (first | with_reducible exact hb1 | with_reducible refine Below.drew ?_ | with_reducible refine below_drewN ?_ _ | with_reducible refine Below.alloc ?_ (by have := hb1.size; first | (simp; done) | (simp; omega) | omega) _ | with_reducible refine Below.setCell ?_ (by first | (simp; done) | (simp; omega) | omega) _)) hc2
      clear hc2 hb1
      go_wp2_with fail
      with_reducible refine (H_hcz.out _ (H_h.out.later hb2)).mono ?_
      rintro e w3 ⟨hfr, hc3⟩
      obtain ⟨a3, c3, rfl, hZ⟩ := hfr.idsIn H_iz.out.ids
      have hb3 : Below w.heap.size w w3 := bchain (by repeat' (first | with_reducible exact hb2 | with_reducible refine Below.drew ?_ | with_reducible refine below_drewN ?_ _ | with_reducible refine Below.alloc ?_ (by have := hb2.size; first | (simp; done) | (simp; omega) | omega) _ | with_reducible refine Below.setCell ?_ (by first | (simp; done) | (simp; omega) | omega) _)) hc3
      clear hc3 hfr
      go_wp2_with fail
      with_reducible refine (H_hco.out _ (H_h.out.later hb3)).mono ?_
      rintro e w4 ⟨hfr, hc4⟩
      obtain ⟨a4, c4, rfl, hO⟩ := hfr.idsIn H_io.out.ids
      have hZ4 := hZ.later hc4
      have hb4 : Below w.heap.size w w4 := bchain (by repeat' (first | with_reducible exact hb3 | with_reducible refine Below.drew ?_ | with_reducible refine below_drewN ?_ _ | with_reducible refine Below.alloc ?_ (by have := hb3.size; first | (simp; done) | (simp; omega) | omega) _ | with_reducible refine Below.setCell ?_ (by first | (simp; done) | (simp; omega) | omega) _)) hc4
      clear hc4 hfr hZ
      go_wp2_with fail
      exact bodyPost_ret (v := .tuple #[.int .i64 N, .slice a3 z.length c3, .slice a4 o.length c4, .int .i64 0]) (by simp [results, Tryd.results14, go_sem, *]) rfl ⟨⟨a3, c3, a4, c4, rfl, hZ4, hO⟩, (by repeat' (first | with_reducible exact hb4 | with_reducible refine Below.drew ?_ | with_reducible refine below_drewN ?_ _ | with_reducible refine Below.alloc ?_ (by have := hb4.size; first | (simp; done) | (simp; omega) | omega) _ | with_reducible refine Below.setCell ?_ (by first | (simp; done) | (simp; omega) | omega) _))⟩
  · rw [show splitZ l = ⟨0, [], [], chkZ l⟩ from by unfold splitZ; rw [if_pos hz]]
    obtain ⟨er, her⟩ : ∃ er, chkZ l = er := ⟨_, rfl⟩
    rw [her] at hz
    simp only [her] at hck ⊢
    have hzb : (er == 0) = false := by simpa using hz
    have H_hck := Box.mk hck
    have H_hn := Box.mk hn
    have H_her := Box.mk her
    have H_h := Box.mk h
    clear hck hn her h
    clear hm
    go_enter Tryd.func14, Tryd.ntmps14
    have hb0 := Below.refl w.heap.size w
    go_wp2_with fail
    with_reducible refine (H_hck.out _ H_h.out).mono ?_
    rintro e w1 ⟨rfl, hc1⟩
    have hb1 : Below w.heap.size w w1 := bchain (by repeat' (first | with_reducible exact hb0 | with_reducible refine Below.drew ?_ | with_reducible refine below_drewN ?_ _ | with_reducible refine Below.alloc ?_ (by have := hb0.size; first | (simp; done) | (simp; omega) | omega) _ | with_reducible refine Below.setCell ?_ (by first | (simp; done) | (simp; omega) | omega) _)) hc1
    clear hc1 hb0
    go_wp2_with fail
    exact bodyPost_ret (v := .tuple #[.int .i64 0, .slice none 0 0, .slice none 0 0, .int .i64 er]) (by simp [results, Tryd.results14, go_sem, *]) rfl ⟨⟨none, 0, none, 0, rfl, .nil _ _ _, .nil _ _ _⟩, (by repeat' (first | with_reducible exact hb1 | with_reducible refine Below.drew ?_ | with_reducible refine below_drewN ?_ _ | with_reducible refine Below.alloc ?_ (by have := hb1.size; first | (simp; done) | (simp; omega) | omega) _ | with_reducible refine Below.setCell ?_ (by first | (simp; done) | (simp; omega) | omega) _))⟩

end Go.Proofs.YtfabcdpmnbeflaaDoor

/- Lists of ids compared; lists too long. -/
namespace Go.Proofs.YtfabcdpmnbeflaaDoor
set_option linter.unusedSimpArgs false
set_option linter.unusedVariables false
set_option linter.unnecessarySimpa false
open Go.RowKit
set_option maxRecDepth 100000

theorem eq_of_pc {l m : List (List Int)} (hl : l.length = m.length) (h : ∀ j, j < l.length → pc l j = pc m j) : l = m := by
  apply List.ext_getElem hl
  intro i h1 h2
  have := h i h1
  unfold pc at this
  rw [List.getElem?_eq_getElem h1, List.getElem?_eq_getElem h2] at this
  simpa using this
set_option maxHeartbeats 2000000 in
theorem sameIds_any (l m : List (List Int)) (a b : Option Addr) (n k c d : Nat) (w : World) (hl : IdsIn w a c l) (hm : IdsIn w b d m) (hn : n = l.length) (hk : k = m.length) (hb : n ≤ maxLen) (hb2 : k ≤ maxLen) :
    Calls Tryd.prog 19 #[.slice a n c, .slice b k d] w fun e w' =>
      e = .returned (.bool (decide (l = m))) ∧ Below w.heap.size w w' := by
  unfold maxLen at hb hb2
  by_cases hnk : n = k
  · subst hnk
    have hnI : (n : Int) ≤ 9223372036854775807 := by omega
    have hra := fun (hp : 0 < n) => hl.row (by omega)
    have hrb := fun (hp : 0 < n) => hm.row (by omega)
    have hia := fun (j : Nat) (hj : j < n) => hl.ids _ (pc_mem (show j < l.length by omega))
    have hib := fun (j : Nat) (hj : j < n) => hm.ids _ (pc_mem (show j < m.length by omega))
    obtain ⟨V, hV⟩ : ∃ V, decide (l = m) = V := ⟨_, rfl⟩
    have hyes := fun (h : l = m) => show V = true by rw [← hV, h]; simp
    have hno := fun (h : l ≠ m) => show V = false by rw [← hV]; simpa using h
    rw [hV]
    have H_hl := Box.mk hl
    have H_hm := Box.mk hm
    have H_hn := Box.mk hn
    have H_hk := Box.mk hk
    have H_hra := Box.mk hra
    have H_hrb := Box.mk hrb
    have H_hia := Box.mk hia
    have H_hib := Box.mk hib
    have H_hV := Box.mk hV
    have H_hyes := Box.mk hyes
    have H_hno := Box.mk hno
    clear hl hm hn hk hra hrb hia hib hV hyes hno
    clear hb hb2
    go_enter Tryd.func19, Tryd.ntmps19
    have hb0 := Below.refl w.heap.size w
    go_wp2_with fail
    go_loopw [5] (fun q wr => ∃ i : Nat, i ≤ n ∧ q = .int .i64 i ∧ Below w.heap.size w wr ∧ Box (∀ j, j < i → pc l j = pc m j)) (fun q _ => n - (intOf q).toNat)
    case atStart => exact ⟨0, Nat.zero_le _, rfl, hb0, ⟨fun j hj => by omega⟩⟩
    case round =>
      obtain ⟨i, hi, rfl, hbw, hall⟩ := hrel
      by_cases hlt : i < n
      · have hltI : (i : Int) < (n : Int) := by omega
        obtain ⟨b1, o1, rfl, hbl1, hr1⟩ := H_hra.out (by omega)
        obtain ⟨b2, o2, rfl, hbl2, hr2⟩ := H_hrb.out (by omega)
        have hx := H_hia.out i hlt
        have hy := H_hib.out i hlt
        have hrx := rangeAt_later (hr1 i (by have := H_hn.out; omega)) hbw
        have hry := rangeAt_later (hr2 i (by have := H_hk.out; omega)) hbw
        have heq := fun w => eq_ids (pc l i) (pc m i) hx.len hy.len w
        obtain ⟨us, hus⟩ : ∃ v, v = idC (pc l i) := ⟨_, rfl⟩
        have husl := idC_len hx
        have husi := idC_info hx
        have huso := idC_one (pc l i)
        rw [← hus] at husl husi huso
        have husr : us.length = (List.replicate 32 (Value.int .u8 0)).length := by rw [husl]; rfl
        obtain ⟨vs, hvs⟩ : ∃ v, v = idC (pc m i) := ⟨_, rfl⟩
        have hvsl := idC_len hy
        have hvsi := idC_info hy
        have hvso := idC_one (pc m i)
        rw [← hvs] at hvsl hvsi hvso
        have hvsr : vs.length = (List.replicate 32 (Value.int .u8 0)).length := by rw [hvsl]; rfl
        obtain ⟨bb, hbb⟩ : ∃ bb, (pc l i == pc m i) = bb := ⟨_, rfl⟩
        have heq' : ∀ w, (Op.equalIn 10000 24 (.agg us.toArray) (.agg vs.toArray)).run Tryd.prog w = .ok bb w := fun w => by
          rw [hus, hvs, ← hbb]; exact heq w
        simp only [← hus, ← hvs] at hrx hry
        cases bb with
        | true =>
          have hnext : ∀ j, j < i + 1 → pc l j = pc m j := fun j hj => by
            by_cases hji : j = i
            · subst hji; simpa using hbb
            · exact hall.out j (by omega)
          have H_hus := Box.mk hus
          have H_husl := Box.mk husl
          have H_husi := Box.mk husi
          have H_huso := Box.mk huso
          have H_husr := Box.mk husr
          have H_hvs := Box.mk hvs
          have H_hvsl := Box.mk hvsl
          have H_hvsi := Box.mk hvsi
          have H_hvso := Box.mk hvso
          have H_hvsr := Box.mk hvsr
          have H_hr1 := Box.mk hr1
          have H_hr2 := Box.mk hr2
          have H_hx := Box.mk hx
          have H_hy := Box.mk hy
          have H_heq := Box.mk heq
          have H_hbb := Box.mk hbb
          have H_hnext := Box.mk hnext
          have H_hall := Box.mk hall
          clear hus husl husi huso husr hvs hvsl hvsi hvso hvsr hr1 hr2 hx hy heq hbb hnext hall
          go_wp2_with fail
          refine wp_gen fun w11 hc11 => ?_
          have hb11 : Below w.heap.size w w11 := bchain (by repeat' (first | with_reducible exact hbw | with_reducible refine Below.drew ?_ | with_reducible refine below_drewN ?_ _ | with_reducible refine Below.alloc ?_ (by have := hbw.size; first | (simp; done) | (simp; omega) | omega) _ | with_reducible refine Below.setCell ?_ (by first | (simp; done) | (simp; omega) | omega) _)) hc11
          have hrx := rangeAt_later hrx hc11
          have hry := rangeAt_later hry hc11
          clear hc11
          refine wp_region_on (by kernel_rfl) (by kernel_rfl) ?_
          repeat (first | ((refine wpQuiet_load_mid (by first | rfl | (simp [Region.wanted]; done)) 24 _ rfl b1 (o1 + i * 32) (by rfl) us _ hrx Tryd.underlying24 rfl H_husi.out ?_); simp only [Act.put, List.setIfInBounds_toArray, List.set_cons_succ, List.set_cons_zero]) | ((refine wpQuiet_load_mid (by first | rfl | (simp [Region.wanted]; done)) 24 _ rfl b2 (o2 + i * 32) (by rfl) vs _ hry Tryd.underlying24 rfl H_hvsi.out ?_); simp only [Act.put, List.setIfInBounds_toArray, List.set_cons_succ, List.set_cons_zero]) | (go_big_quiet_step (fail)))
          refine wpQuiet_nil ?_
          intro w12 hc12
          have hb12 : Below w.heap.size w w12 := bchain (by repeat' (first | with_reducible exact hb11 | with_reducible refine Below.drew ?_ | with_reducible refine below_drewN ?_ _ | with_reducible refine Below.alloc ?_ (by have := hb11.size; first | (simp; done) | (simp; omega) | omega) _ | with_reducible refine Below.setCell ?_ (by first | (simp; done) | (simp; omega) | omega) _)) hc12
          clear hc12
          go_wp2_with fail
          go_roundw
          case rel => exact ⟨i + 1, by omega, by go_num, hb12, H_hnext⟩
          case measure => simp [intOf]; omega
        | false =>
          have hV := H_hno.out (fun e => by rw [e] at hbb; simp at hbb)
          have H_hus := Box.mk hus
          have H_husl := Box.mk husl
          have H_husi := Box.mk husi
          have H_huso := Box.mk huso
          have H_husr := Box.mk husr
          have H_hvs := Box.mk hvs
          have H_hvsl := Box.mk hvsl
          have H_hvsi := Box.mk hvsi
          have H_hvso := Box.mk hvso
          have H_hvsr := Box.mk hvsr
          have H_hr1 := Box.mk hr1
          have H_hr2 := Box.mk hr2
          have H_hx := Box.mk hx
          have H_hy := Box.mk hy
          have H_heq := Box.mk heq
          have H_hbb := Box.mk hbb
          have H_hall := Box.mk hall
          have H_hV := Box.mk hV
          clear hus husl husi huso husr hvs hvsl hvsi hvso hvsr hr1 hr2 hx hy heq hbb hall hV
          go_wp2_with fail
          refine wp_gen fun w11 hc11 => ?_
          have hb11 : Below w.heap.size w w11 := bchain (by repeat' (first | with_reducible exact hbw | with_reducible refine Below.drew ?_ | with_reducible refine below_drewN ?_ _ | with_reducible refine Below.alloc ?_ (by have := hbw.size; first | (simp; done) | (simp; omega) | omega) _ | with_reducible refine Below.setCell ?_ (by first | (simp; done) | (simp; omega) | omega) _)) hc11
          have hrx := rangeAt_later hrx hc11
          have hry := rangeAt_later hry hc11
          clear hc11
          refine wp_region_on (by kernel_rfl) (by kernel_rfl) ?_
          repeat (first | ((refine wpQuiet_load_mid (by first | rfl | (simp [Region.wanted]; done)) 24 _ rfl b1 (o1 + i * 32) (by rfl) us _ hrx Tryd.underlying24 rfl H_husi.out ?_); simp only [Act.put, List.setIfInBounds_toArray, List.set_cons_succ, List.set_cons_zero]) | ((refine wpQuiet_load_mid (by first | rfl | (simp [Region.wanted]; done)) 24 _ rfl b2 (o2 + i * 32) (by rfl) vs _ hry Tryd.underlying24 rfl H_hvsi.out ?_); simp only [Act.put, List.setIfInBounds_toArray, List.set_cons_succ, List.set_cons_zero]) | ((refine wpQuiet_load_mid (by first | rfl | (simp [Region.wanted]; done)) 24 _ rfl b1 (o1 + i * 32) (by rfl) us _ hrx Tryd.underlying24 rfl H_husi.out ?_); simp only [Act.put, List.setIfInBounds_toArray, List.set_cons_succ, List.set_cons_zero]) | ((refine wpQuiet_load_mid (by first | rfl | (simp [Region.wanted]; done)) 24 _ rfl b2 (o2 + i * 32) (by rfl) vs _ hry Tryd.underlying24 rfl H_hvsi.out ?_); simp only [Act.put, List.setIfInBounds_toArray, List.set_cons_succ, List.set_cons_zero]) | (go_big_quiet_step (fail)))
          refine wpQuiet_nil ?_
          intro w12 hc12
          have hb12 : Below w.heap.size w w12 := bchain (by repeat' (first | with_reducible exact hb11 | with_reducible refine Below.drew ?_ | with_reducible refine below_drewN ?_ _ | with_reducible refine Below.alloc ?_ (by have := hb11.size; first | (simp; done) | (simp; omega) | omega) _ | with_reducible refine Below.setCell ?_ (by first | (simp; done) | (simp; omega) | omega) _)) hc12
          clear hc12
          go_wp2_with fail
          go_ret
          exact ⟨by rw [H_hV.out]; rfl, hb12⟩
      · have hge : (n : Int) ≤ (i : Int) := by omega
        have hV := H_hyes.out (eq_of_pc (by have := H_hn.out; have := H_hk.out; omega) fun j hj => hall.out j (by have := H_hn.out; omega))
        have H_hV := Box.mk hV
        clear hV
        clear hlt
        go_wp2_with fail
        go_ret
        exact ⟨by rw [H_hV.out]; rfl, hbw⟩
  · have hne : decide (l = m) = false := by simp; intro h; rw [h] at hn; omega
    rw [hne]
    have hnkI : ¬ (n : Int) = (k : Int) := by omega
    have H_hl := Box.mk hl
    have H_hm := Box.mk hm
    have H_hn := Box.mk hn
    have H_hk := Box.mk hk
    have H_hne := Box.mk hne
    clear hl hm hn hk hne
    clear hb hb2
    go_enter Tryd.func19, Tryd.ntmps19
    have hb0 := Below.refl w.heap.size w
    go_wp2_with fail
    go_ret
    exact ⟨rfl, by repeat' (first | with_reducible exact hb0 | with_reducible refine Below.drew ?_ | with_reducible refine below_drewN ?_ _ | with_reducible refine Below.alloc ?_ (by have := hb0.size; first | (simp; done) | (simp; omega) | omega) _ | with_reducible refine Below.setCell ?_ (by first | (simp; done) | (simp; omega) | omega) _)⟩
def longZ (n : Nat) : Bool := decide (16 < n ∧ n ≤ 60 ∨ 80 < n)
theorem long_any (a : Option Addr) (n c : Nat) (w : World) :
    Calls Tryd.prog 8 #[.slice a n c] w fun e w' =>
      e = .returned (.bool (longZ n)) ∧ Below w.heap.size w w' := by
  rcases (by omega : n ≤ 16 ∨ (16 < n ∧ n ≤ 60) ∨ (60 < n ∧ n ≤ 80) ∨ 80 < n) with h | ⟨h, h2⟩ | ⟨h, h2⟩ | h
  · have hr : longZ n = false := by unfold longZ; simp; omega
    have hI : (n : Int) ≤ 16 := by omega
    have h80 : (n : Int) ≤ 80 := by omega
    rw [hr]
    clear hr
    go_enter Tryd.func8, Tryd.ntmps8
    have hb0 := Below.refl w.heap.size w
    go_wp2_with fail
    go_ret
    refine ⟨ret_bool (a := decide (80 < (n : Int))) ?_, hb0⟩
    simp; omega
  · have hr : longZ n = true := by unfold longZ; simp; omega
    have hI : (16 : Int) < (n : Int) := by omega
    have hI2 : (n : Int) ≤ 60 := by omega
    rw [hr]
    clear hr
    go_enter Tryd.func8, Tryd.ntmps8
    have hb0 := Below.refl w.heap.size w
    go_wp2_with fail
    go_ret
    exact ⟨rfl, by repeat' (first | with_reducible exact hb0 | with_reducible refine Below.drew ?_ | with_reducible refine below_drewN ?_ _ | with_reducible refine Below.alloc ?_ (by have := hb0.size; first | (simp; done) | (simp; omega) | omega) _ | with_reducible refine Below.setCell ?_ (by first | (simp; done) | (simp; omega) | omega) _)⟩
  · have hr : longZ n = false := by unfold longZ; simp; omega
    have hI : (16 : Int) < (n : Int) := by omega
    have hI2 : (60 : Int) < (n : Int) := by omega
    have hI3 : (n : Int) ≤ 80 := by omega
    rw [hr]
    clear hr
    go_enter Tryd.func8, Tryd.ntmps8
    have hb0 := Below.refl w.heap.size w
    go_wp2_with fail
    go_ret
    refine ⟨ret_bool (a := (decide ((n : Int) ≤ 60) || decide (80 < (n : Int)))) ?_, hb0⟩
    simp; omega
  · have hr : longZ n = true := by unfold longZ; simp; omega
    have hI : (16 : Int) < (n : Int) := by omega
    have hI2 : (60 : Int) < (n : Int) := by omega
    have hI3 : (80 : Int) < (n : Int) := by omega
    rw [hr]
    clear hr
    go_enter Tryd.func8, Tryd.ntmps8
    have hb0 := Below.refl w.heap.size w
    go_wp2_with fail
    go_ret
    exact ⟨rfl, by repeat' (first | with_reducible exact hb0 | with_reducible refine Below.drew ?_ | with_reducible refine below_drewN ?_ _ | with_reducible refine Below.alloc ?_ (by have := hb0.size; first | (simp; done) | (simp; omega) | omega) _ | with_reducible refine Below.setCell ?_ (by first | (simp; done) | (simp; omega) | omega) _)⟩

end Go.Proofs.YtfabcdpmnbeflaaDoor
