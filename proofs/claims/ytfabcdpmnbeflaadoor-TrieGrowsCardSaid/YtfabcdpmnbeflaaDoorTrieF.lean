/- TrieF: TrieFind, TrieDownP, TrieDown, TrieUnion, TrieDiffer. -/
import Derived.Test.YtfabcdpmnbeflaaDoorTrieC
import Derived.Test.YtfabcdpmnbeflaaDoorTrieD
/- An id in a list; the ids of one list that another lacks. -/
namespace Go.Proofs.YtfabcdpmnbeflaaDoor
set_option linter.unusedSimpArgs false
set_option linter.unusedVariables false
set_option linter.unnecessarySimpa false
open Go.RowKit
set_option maxRecDepth 100000

theorem mem_pc {l : List (List Int)} {x : List Int} (h : x ∈ l) : ∃ j, j < l.length ∧ pc l j = x := by
  obtain ⟨i, hi, rfl⟩ := List.getElem_of_mem h
  exact ⟨i, hi, by unfold pc; rw [List.getElem?_eq_getElem hi]; rfl⟩
set_option maxHeartbeats 2000000 in
theorem index_any (l : List (List Int)) (x : List Int) (a : Option Addr) (n c : Nat) (w : World) (h : IdsIn w a c l) (hx : IdIn x) (hn : n = l.length) (hm : n ≤ maxLen) :
    Calls Tryd.prog 71 #[.slice a n c, .agg (idC x).toArray] w fun e w' =>
      (∃ r : Int, e = .returned (.int .i64 r) ∧ decide (0 ≤ r) = decide (x ∈ l) ∧ -1 ≤ r ∧ r < n + 1) ∧ Below w.heap.size w w' := by
  unfold maxLen at hm
  have hnI : (n : Int) ≤ 9223372036854775807 := by omega
  have hrow := fun (hp : 0 < n) => h.row (by omega)
  have hids := fun (k : Nat) (hk : k < n) => h.ids _ (pc_mem (show k < l.length by omega))
  have hyes := fun (j : Nat) (hj : j < n) (e : pc l j = x) => show decide (x ∈ l) = true by rw [← e]; simpa using pc_mem (show j < l.length by omega)
  have hno := fun (hj : ∀ j, j < n → pc l j ≠ x) => show decide (x ∈ l) = false by
    simp only [decide_eq_false_iff_not]
    intro hmem
    obtain ⟨j, h1, h2⟩ := mem_pc hmem
    exact hj j (by omega) h2
  obtain ⟨us, hus⟩ : ∃ v, v = idC (x) := ⟨_, rfl⟩
  have husl := idC_len hx
  have husi := idC_info hx
  have huso := idC_one (x)
  rw [← hus] at husl husi huso
  have husr : us.length = (List.replicate 32 (Value.int .u8 0)).length := by rw [husl]; rfl
  obtain ⟨V, hV⟩ : ∃ V, decide (x ∈ l) = V := ⟨_, rfl⟩
  rw [hV] at hyes hno ⊢
  rw [← hus]
  have H_h := Box.mk h
  have H_hn := Box.mk hn
  have H_hrow := Box.mk hrow
  have H_hids := Box.mk hids
  have H_hyes := Box.mk hyes
  have H_hno := Box.mk hno
  have H_hus := Box.mk hus
  have H_husl := Box.mk husl
  have H_husi := Box.mk husi
  have H_huso := Box.mk huso
  have H_husr := Box.mk husr
  have H_hx := Box.mk hx
  have H_hV := Box.mk hV
  clear h hn hrow hids hyes hno hus husl husi huso husr hx hV
  clear hm
  go_enter Tryd.func71, Tryd.ntmps71
  have hb0 := Below.refl w.heap.size w
  go_upto_region 1 with fail
  refine wp_gen fun w1 hc1 => ?_
  have hX : Blk w1 w.heap.size 24 us := Blk.later (Blk.newA w _ _ _ us rfl rfl) hc1
  have hb1 : Below w.heap.size w w1 := bchain (by repeat' (first | with_reducible exact hb0 | with_reducible refine Below.drew ?_ | with_reducible refine below_drewN ?_ _ | with_reducible refine Below.alloc ?_ (by have := hb0.size; first | (simp; done) | (simp; omega) | omega) _ | with_reducible refine Below.setCell ?_ (by first | (simp; done) | (simp; omega) | omega) _)) hc1
  clear hc1
  go_wp2_with fail
  go_loopw [8] (fun q wr => ∃ i : Nat, i ≤ n ∧ q = .int .i64 i ∧ Below w.heap.size w wr ∧ Blk wr w.heap.size 24 us ∧ Box (∀ j, j < i → pc l j ≠ x)) (fun q _ => n - (intOf q).toNat)
  case atStart => exact ⟨0, Nat.zero_le _, rfl, hb1, hX, ⟨fun j hj => by omega⟩⟩
  case round =>
    clear hX hb1
    obtain ⟨i, hi, rfl, hbw, hX, hall⟩ := hrel
    by_cases hlt : i < n
    · have hltI : (i : Int) < (n : Int) := by omega
      obtain ⟨b, o, rfl, hbl, hr⟩ := H_hrow.out (by omega)
      have hy := H_hids.out i hlt
      have hry := rangeAt_later (hr i (by have := H_hn.out; omega)) hbw
      have hrx := hX.rangeAt
      have heq := fun w => eq_ids x (pc l i) H_hx.out.len hy.len w
      obtain ⟨vs, hvs⟩ : ∃ v, v = idC (pc l i) := ⟨_, rfl⟩
      have hvsl := idC_len hy
      have hvsi := idC_info hy
      have hvso := idC_one (pc l i)
      rw [← hvs] at hvsl hvsi hvso
      have hvsr : vs.length = (List.replicate 32 (Value.int .u8 0)).length := by rw [hvsl]; rfl
      obtain ⟨bb, hbb⟩ : ∃ bb, (x == pc l i) = bb := ⟨_, rfl⟩
      have heq' : ∀ w, (Op.equalIn 10000 24 (.agg us.toArray) (.agg vs.toArray)).run Tryd.prog w = .ok bb w := fun w => by
        rw [H_hus.out, hvs, ← hbb]; exact heq w
      simp only [← hvs] at hry
      cases bb with
      | true =>
        have hV := H_hyes.out i hlt (by have e := hbb; simp at e; exact e.symm)
        have H_hvs := Box.mk hvs
        have H_hvsl := Box.mk hvsl
        have H_hvsi := Box.mk hvsi
        have H_hvso := Box.mk hvso
        have H_hvsr := Box.mk hvsr
        have H_hr := Box.mk hr
        have H_hy := Box.mk hy
        have H_heq := Box.mk heq
        have H_hbb := Box.mk hbb
        have H_hall := Box.mk hall
        have H_hV := Box.mk hV
        clear hvs hvsl hvsi hvso hvsr hr hy heq hbb hall hV
        go_wp2_with fail
        refine wp_gen fun w11 hc11 => ?_
        have hb11 : Below w.heap.size w w11 := bchain (by repeat' (first | with_reducible exact hbw | with_reducible refine Below.drew ?_ | with_reducible refine below_drewN ?_ _ | with_reducible refine Below.alloc ?_ (by have := hbw.size; first | (simp; done) | (simp; omega) | omega) _ | with_reducible refine Below.setCell ?_ (by first | (simp; done) | (simp; omega) | omega) _)) hc11
        have hrx := rangeAt_later hrx hc11
        have hry := rangeAt_later hry hc11
        clear hc11
        refine wp_region_on (by kernel_rfl) (by kernel_rfl) ?_
        repeat (first | ((refine wpQuiet_load_mid (by first | rfl | (simp [Region.wanted]; done)) 24 _ rfl w.heap.size 0 (by rfl) us _ hrx Tryd.underlying24 rfl H_husi.out ?_); simp only [Act.put, List.setIfInBounds_toArray, List.set_cons_succ, List.set_cons_zero]) | ((refine wpQuiet_load_mid (by first | rfl | (simp [Region.wanted]; done)) 24 _ rfl b (o + i * 32) (by rfl) vs _ hry Tryd.underlying24 rfl H_hvsi.out ?_); simp only [Act.put, List.setIfInBounds_toArray, List.set_cons_succ, List.set_cons_zero]) | (go_big_quiet_step (fail)))
        refine wpQuiet_nil ?_
        intro w12 hc12
        have hb12 : Below w.heap.size w w12 := bchain (by repeat' (first | with_reducible exact hb11 | with_reducible refine Below.drew ?_ | with_reducible refine below_drewN ?_ _ | with_reducible refine Below.alloc ?_ (by have := hb11.size; first | (simp; done) | (simp; omega) | omega) _ | with_reducible refine Below.setCell ?_ (by first | (simp; done) | (simp; omega) | omega) _)) hc12
        clear hc12
        go_wp2_with fail
        go_ret
        exact ⟨⟨i, rfl, by rw [H_hV.out]; simp, by omega, by omega⟩, hb12⟩
      | false =>
        have hnext : ∀ j, j < i + 1 → pc l j ≠ x := fun j hj => by
          by_cases hji : j = i
          · subst hji; intro e; rw [e] at hbb; simp at hbb
          · exact hall.out j (by omega)
        have H_hvs := Box.mk hvs
        have H_hvsl := Box.mk hvsl
        have H_hvsi := Box.mk hvsi
        have H_hvso := Box.mk hvso
        have H_hvsr := Box.mk hvsr
        have H_hr := Box.mk hr
        have H_hy := Box.mk hy
        have H_heq := Box.mk heq
        have H_hbb := Box.mk hbb
        have H_hall := Box.mk hall
        have H_hnext := Box.mk hnext
        clear hvs hvsl hvsi hvso hvsr hr hy heq hbb hall hnext
        go_wp2_with fail
        refine wp_gen fun w11 hc11 => ?_
        have hb11 : Below w.heap.size w w11 := bchain (by repeat' (first | with_reducible exact hbw | with_reducible refine Below.drew ?_ | with_reducible refine below_drewN ?_ _ | with_reducible refine Below.alloc ?_ (by have := hbw.size; first | (simp; done) | (simp; omega) | omega) _ | with_reducible refine Below.setCell ?_ (by first | (simp; done) | (simp; omega) | omega) _)) hc11
        have hst11 : Below wr.heap.size wr w11 := bchain (by repeat' (first | with_reducible exact Below.refl _ _ | with_reducible refine Below.drew ?_ | with_reducible refine below_drewN ?_ _ | with_reducible refine Below.alloc ?_ (by first | (simp; done) | (simp; omega) | omega) _ | with_reducible refine Below.setCell ?_ (by first | (simp; done) | (simp; omega) | omega) _)) hc11
        replace hX := hX.later hst11
        clear hst11
        have hrx := rangeAt_later hrx hc11
        have hry := rangeAt_later hry hc11
        clear hc11
        refine wp_region_on (by kernel_rfl) (by kernel_rfl) ?_
        repeat (first | ((refine wpQuiet_load_mid (by first | rfl | (simp [Region.wanted]; done)) 24 _ rfl w.heap.size 0 (by rfl) us _ hrx Tryd.underlying24 rfl H_husi.out ?_); simp only [Act.put, List.setIfInBounds_toArray, List.set_cons_succ, List.set_cons_zero]) | ((refine wpQuiet_load_mid (by first | rfl | (simp [Region.wanted]; done)) 24 _ rfl b (o + i * 32) (by rfl) vs _ hry Tryd.underlying24 rfl H_hvsi.out ?_); simp only [Act.put, List.setIfInBounds_toArray, List.set_cons_succ, List.set_cons_zero]) | ((refine wpQuiet_load_mid (by first | rfl | (simp [Region.wanted]; done)) 24 _ rfl w.heap.size 0 (by rfl) us _ hrx Tryd.underlying24 rfl H_husi.out ?_); simp only [Act.put, List.setIfInBounds_toArray, List.set_cons_succ, List.set_cons_zero]) | ((refine wpQuiet_load_mid (by first | rfl | (simp [Region.wanted]; done)) 24 _ rfl b (o + i * 32) (by rfl) vs _ hry Tryd.underlying24 rfl H_hvsi.out ?_); simp only [Act.put, List.setIfInBounds_toArray, List.set_cons_succ, List.set_cons_zero]) | (go_big_quiet_step (fail)))
        refine wpQuiet_nil ?_
        intro w12 hc12
        have hb12 : Below w.heap.size w w12 := bchain (by repeat' (first | with_reducible exact hb11 | with_reducible refine Below.drew ?_ | with_reducible refine below_drewN ?_ _ | with_reducible refine Below.alloc ?_ (by have := hb11.size; first | (simp; done) | (simp; omega) | omega) _ | with_reducible refine Below.setCell ?_ (by first | (simp; done) | (simp; omega) | omega) _)) hc12
        have hst12 : Below w11.heap.size w11 w12 := bchain (by repeat' (first | with_reducible exact Below.refl _ _ | with_reducible refine Below.drew ?_ | with_reducible refine below_drewN ?_ _ | with_reducible refine Below.alloc ?_ (by first | (simp; done) | (simp; omega) | omega) _ | with_reducible refine Below.setCell ?_ (by first | (simp; done) | (simp; omega) | omega) _)) hc12
        replace hX := hX.later hst12
        clear hst12
        clear hc12
        go_wp2_with fail
        go_roundw
        case rel => exact ⟨i + 1, by omega, by go_num, hb12, hX, H_hnext⟩
        case measure => simp [intOf]; omega
    · have hge : (n : Int) ≤ (i : Int) := by omega
      have hV := H_hno.out fun j hj => hall.out j (by omega)
      have H_hV := Box.mk hV
      clear hV
      clear hlt
      go_wp2_with fail
      go_ret
      exact ⟨⟨-1, rfl, by rw [H_hV.out]; simp, by omega, by omega⟩, hbw⟩
set_option maxHeartbeats 2000000 in
theorem in_any (l : List (List Int)) (x : List Int) (a : Option Addr) (n c : Nat) (w : World) (h : IdsIn w a c l) (hx : IdIn x) (hn : n = l.length) (hm : n ≤ maxLen) :
    Calls Tryd.prog 28 #[.slice a n c, .agg (idC x).toArray] w fun e w' =>
      e = .returned (.bool (decide (x ∈ l))) ∧ Below w.heap.size w w' := by
  unfold maxLen at hm
  have hnI : (n : Int) ≤ 9223372036854775807 := by omega
  have hrow := fun (hp : 0 < n) => h.row (by omega)
  have hids := fun (k : Nat) (hk : k < n) => h.ids _ (pc_mem (show k < l.length by omega))
  have hyes := fun (j : Nat) (hj : j < n) (e : pc l j = x) => show decide (x ∈ l) = true by rw [← e]; simpa using pc_mem (show j < l.length by omega)
  have hno := fun (hj : ∀ j, j < n → pc l j ≠ x) => show decide (x ∈ l) = false by
    simp only [decide_eq_false_iff_not]
    intro hmem
    obtain ⟨j, h1, h2⟩ := mem_pc hmem
    exact hj j (by omega) h2
  obtain ⟨us, hus⟩ : ∃ v, v = idC (x) := ⟨_, rfl⟩
  have husl := idC_len hx
  have husi := idC_info hx
  have huso := idC_one (x)
  rw [← hus] at husl husi huso
  have husr : us.length = (List.replicate 32 (Value.int .u8 0)).length := by rw [husl]; rfl
  obtain ⟨V, hV⟩ : ∃ V, decide (x ∈ l) = V := ⟨_, rfl⟩
  rw [hV] at hyes hno ⊢
  rw [← hus]
  have H_h := Box.mk h
  have H_hn := Box.mk hn
  have H_hrow := Box.mk hrow
  have H_hids := Box.mk hids
  have H_hyes := Box.mk hyes
  have H_hno := Box.mk hno
  have H_hus := Box.mk hus
  have H_husl := Box.mk husl
  have H_husi := Box.mk husi
  have H_huso := Box.mk huso
  have H_husr := Box.mk husr
  have H_hx := Box.mk hx
  have H_hV := Box.mk hV
  clear h hn hrow hids hyes hno hus husl husi huso husr hx hV
  clear hm
  go_enter Tryd.func28, Tryd.ntmps28
  have hb0 := Below.refl w.heap.size w
  go_upto_region 1 with fail
  refine wp_gen fun w1 hc1 => ?_
  have hX : Blk w1 w.heap.size 24 us := Blk.later (Blk.newA w _ _ _ us rfl rfl) hc1
  have hb1 : Below w.heap.size w w1 := bchain (by repeat' (first | with_reducible exact hb0 | with_reducible refine Below.drew ?_ | with_reducible refine below_drewN ?_ _ | with_reducible refine Below.alloc ?_ (by have := hb0.size; first | (simp; done) | (simp; omega) | omega) _ | with_reducible refine Below.setCell ?_ (by first | (simp; done) | (simp; omega) | omega) _)) hc1
  clear hc1
  go_wp2_with fail
  go_loopw [5] (fun q wr => ∃ i : Nat, i ≤ n ∧ q = .int .i64 i ∧ Below w.heap.size w wr ∧ Blk wr w.heap.size 24 us ∧ Box (∀ j, j < i → pc l j ≠ x)) (fun q _ => n - (intOf q).toNat)
  case atStart => exact ⟨0, Nat.zero_le _, rfl, hb1, hX, ⟨fun j hj => by omega⟩⟩
  case round =>
    clear hX hb1
    obtain ⟨i, hi, rfl, hbw, hX, hall⟩ := hrel
    by_cases hlt : i < n
    · have hltI : (i : Int) < (n : Int) := by omega
      obtain ⟨b, o, rfl, hbl, hr⟩ := H_hrow.out (by omega)
      have hy := H_hids.out i hlt
      have hry := rangeAt_later (hr i (by have := H_hn.out; omega)) hbw
      have hrx := hX.rangeAt
      have heq := fun w => eq_ids (pc l i) x hy.len H_hx.out.len w
      obtain ⟨vs, hvs⟩ : ∃ v, v = idC (pc l i) := ⟨_, rfl⟩
      have hvsl := idC_len hy
      have hvsi := idC_info hy
      have hvso := idC_one (pc l i)
      rw [← hvs] at hvsl hvsi hvso
      have hvsr : vs.length = (List.replicate 32 (Value.int .u8 0)).length := by rw [hvsl]; rfl
      obtain ⟨bb, hbb⟩ : ∃ bb, (pc l i == x) = bb := ⟨_, rfl⟩
      have heq' : ∀ w, (Op.equalIn 10000 24 (.agg vs.toArray) (.agg us.toArray)).run Tryd.prog w = .ok bb w := fun w => by
        rw [H_hus.out, hvs, ← hbb]; exact heq w
      simp only [← hvs] at hry
      cases bb with
      | true =>
        have hV := H_hyes.out i hlt (by have e := hbb; simp at e; exact e)
        have H_hvs := Box.mk hvs
        have H_hvsl := Box.mk hvsl
        have H_hvsi := Box.mk hvsi
        have H_hvso := Box.mk hvso
        have H_hvsr := Box.mk hvsr
        have H_hr := Box.mk hr
        have H_hy := Box.mk hy
        have H_heq := Box.mk heq
        have H_hbb := Box.mk hbb
        have H_hall := Box.mk hall
        have H_hV := Box.mk hV
        clear hvs hvsl hvsi hvso hvsr hr hy heq hbb hall hV
        go_wp2_with fail
        refine wp_gen fun w11 hc11 => ?_
        have hb11 : Below w.heap.size w w11 := bchain (by repeat' (first | with_reducible exact hbw | with_reducible refine Below.drew ?_ | with_reducible refine below_drewN ?_ _ | with_reducible refine Below.alloc ?_ (by have := hbw.size; first | (simp; done) | (simp; omega) | omega) _ | with_reducible refine Below.setCell ?_ (by first | (simp; done) | (simp; omega) | omega) _)) hc11
        have hrx := rangeAt_later hrx hc11
        have hry := rangeAt_later hry hc11
        clear hc11
        refine wp_region_on (by kernel_rfl) (by kernel_rfl) ?_
        repeat (first | ((refine wpQuiet_load_mid (by first | rfl | (simp [Region.wanted]; done)) 24 _ rfl w.heap.size 0 (by rfl) us _ hrx Tryd.underlying24 rfl H_husi.out ?_); simp only [Act.put, List.setIfInBounds_toArray, List.set_cons_succ, List.set_cons_zero]) | ((refine wpQuiet_load_mid (by first | rfl | (simp [Region.wanted]; done)) 24 _ rfl b (o + i * 32) (by rfl) vs _ hry Tryd.underlying24 rfl H_hvsi.out ?_); simp only [Act.put, List.setIfInBounds_toArray, List.set_cons_succ, List.set_cons_zero]) | ((refine wpQuiet_load_mid (by first | rfl | (simp [Region.wanted]; done)) 24 _ rfl w.heap.size 0 (by rfl) us _ hrx Tryd.underlying24 rfl H_husi.out ?_); simp only [Act.put, List.setIfInBounds_toArray, List.set_cons_succ, List.set_cons_zero]) | ((refine wpQuiet_load_mid (by first | rfl | (simp [Region.wanted]; done)) 24 _ rfl b (o + i * 32) (by rfl) vs _ hry Tryd.underlying24 rfl H_hvsi.out ?_); simp only [Act.put, List.setIfInBounds_toArray, List.set_cons_succ, List.set_cons_zero]) | ((refine wpQuiet_load_mid (by first | rfl | (simp [Region.wanted]; done)) 24 _ rfl w.heap.size 0 (by rfl) us _ hrx Tryd.underlying24 rfl H_husi.out ?_); simp only [Act.put, List.setIfInBounds_toArray, List.set_cons_succ, List.set_cons_zero]) | ((refine wpQuiet_load_mid (by first | rfl | (simp [Region.wanted]; done)) 24 _ rfl b (o + i * 32) (by rfl) vs _ hry Tryd.underlying24 rfl H_hvsi.out ?_); simp only [Act.put, List.setIfInBounds_toArray, List.set_cons_succ, List.set_cons_zero]) | (go_big_quiet_step (fail)))
        refine wpQuiet_nil ?_
        intro w12 hc12
        have hb12 : Below w.heap.size w w12 := bchain (by repeat' (first | with_reducible exact hb11 | with_reducible refine Below.drew ?_ | with_reducible refine below_drewN ?_ _ | with_reducible refine Below.alloc ?_ (by have := hb11.size; first | (simp; done) | (simp; omega) | omega) _ | with_reducible refine Below.setCell ?_ (by first | (simp; done) | (simp; omega) | omega) _)) hc12
        clear hc12
        go_wp2_with fail
        go_ret
        exact ⟨by rw [H_hV.out]; rfl, hb12⟩
      | false =>
        have hnext : ∀ j, j < i + 1 → pc l j ≠ x := fun j hj => by
          by_cases hji : j = i
          · subst hji; intro e; rw [e] at hbb; simp at hbb
          · exact hall.out j (by omega)
        have H_hvs := Box.mk hvs
        have H_hvsl := Box.mk hvsl
        have H_hvsi := Box.mk hvsi
        have H_hvso := Box.mk hvso
        have H_hvsr := Box.mk hvsr
        have H_hr := Box.mk hr
        have H_hy := Box.mk hy
        have H_heq := Box.mk heq
        have H_hbb := Box.mk hbb
        have H_hall := Box.mk hall
        have H_hnext := Box.mk hnext
        clear hvs hvsl hvsi hvso hvsr hr hy heq hbb hall hnext
        go_wp2_with fail
        refine wp_gen fun w11 hc11 => ?_
        have hb11 : Below w.heap.size w w11 := bchain (by repeat' (first | with_reducible exact hbw | with_reducible refine Below.drew ?_ | with_reducible refine below_drewN ?_ _ | with_reducible refine Below.alloc ?_ (by have := hbw.size; first | (simp; done) | (simp; omega) | omega) _ | with_reducible refine Below.setCell ?_ (by first | (simp; done) | (simp; omega) | omega) _)) hc11
        have hst11 : Below wr.heap.size wr w11 := bchain (by repeat' (first | with_reducible exact Below.refl _ _ | with_reducible refine Below.drew ?_ | with_reducible refine below_drewN ?_ _ | with_reducible refine Below.alloc ?_ (by first | (simp; done) | (simp; omega) | omega) _ | with_reducible refine Below.setCell ?_ (by first | (simp; done) | (simp; omega) | omega) _)) hc11
        replace hX := hX.later hst11
        clear hst11
        have hrx := rangeAt_later hrx hc11
        have hry := rangeAt_later hry hc11
        clear hc11
        refine wp_region_on (by kernel_rfl) (by kernel_rfl) ?_
        repeat (first | ((refine wpQuiet_load_mid (by first | rfl | (simp [Region.wanted]; done)) 24 _ rfl w.heap.size 0 (by rfl) us _ hrx Tryd.underlying24 rfl H_husi.out ?_); simp only [Act.put, List.setIfInBounds_toArray, List.set_cons_succ, List.set_cons_zero]) | ((refine wpQuiet_load_mid (by first | rfl | (simp [Region.wanted]; done)) 24 _ rfl b (o + i * 32) (by rfl) vs _ hry Tryd.underlying24 rfl H_hvsi.out ?_); simp only [Act.put, List.setIfInBounds_toArray, List.set_cons_succ, List.set_cons_zero]) | ((refine wpQuiet_load_mid (by first | rfl | (simp [Region.wanted]; done)) 24 _ rfl w.heap.size 0 (by rfl) us _ hrx Tryd.underlying24 rfl H_husi.out ?_); simp only [Act.put, List.setIfInBounds_toArray, List.set_cons_succ, List.set_cons_zero]) | ((refine wpQuiet_load_mid (by first | rfl | (simp [Region.wanted]; done)) 24 _ rfl b (o + i * 32) (by rfl) vs _ hry Tryd.underlying24 rfl H_hvsi.out ?_); simp only [Act.put, List.setIfInBounds_toArray, List.set_cons_succ, List.set_cons_zero]) | ((refine wpQuiet_load_mid (by first | rfl | (simp [Region.wanted]; done)) 24 _ rfl w.heap.size 0 (by rfl) us _ hrx Tryd.underlying24 rfl H_husi.out ?_); simp only [Act.put, List.setIfInBounds_toArray, List.set_cons_succ, List.set_cons_zero]) | ((refine wpQuiet_load_mid (by first | rfl | (simp [Region.wanted]; done)) 24 _ rfl b (o + i * 32) (by rfl) vs _ hry Tryd.underlying24 rfl H_hvsi.out ?_); simp only [Act.put, List.setIfInBounds_toArray, List.set_cons_succ, List.set_cons_zero]) | ((refine wpQuiet_load_mid (by first | rfl | (simp [Region.wanted]; done)) 24 _ rfl w.heap.size 0 (by rfl) us _ hrx Tryd.underlying24 rfl H_husi.out ?_); simp only [Act.put, List.setIfInBounds_toArray, List.set_cons_succ, List.set_cons_zero]) | ((refine wpQuiet_load_mid (by first | rfl | (simp [Region.wanted]; done)) 24 _ rfl b (o + i * 32) (by rfl) vs _ hry Tryd.underlying24 rfl H_hvsi.out ?_); simp only [Act.put, List.setIfInBounds_toArray, List.set_cons_succ, List.set_cons_zero]) | (go_big_quiet_step (fail)))
        refine wpQuiet_nil ?_
        intro w12 hc12
        have hb12 : Below w.heap.size w w12 := bchain (by repeat' (first | with_reducible exact hb11 | with_reducible refine Below.drew ?_ | with_reducible refine below_drewN ?_ _ | with_reducible refine Below.alloc ?_ (by have := hb11.size; first | (simp; done) | (simp; omega) | omega) _ | with_reducible refine Below.setCell ?_ (by first | (simp; done) | (simp; omega) | omega) _)) hc12
        have hst12 : Below w11.heap.size w11 w12 := bchain (by repeat' (first | with_reducible exact Below.refl _ _ | with_reducible refine Below.drew ?_ | with_reducible refine below_drewN ?_ _ | with_reducible refine Below.alloc ?_ (by first | (simp; done) | (simp; omega) | omega) _ | with_reducible refine Below.setCell ?_ (by first | (simp; done) | (simp; omega) | omega) _)) hc12
        replace hX := hX.later hst12
        clear hst12
        clear hc12
        go_wp2_with fail
        go_roundw
        case rel => exact ⟨i + 1, by omega, by go_num, hb12, hX, H_hnext⟩
        case measure => simp [intOf]; omega
    · have hge : (n : Int) ≤ (i : Int) := by omega
      have hV := H_hno.out fun j hj => hall.out j (by omega)
      have H_hV := Box.mk hV
      clear hV
      clear hlt
      go_wp2_with fail
      go_ret
      exact ⟨by rw [H_hV.out]; rfl, hbw⟩
set_option maxHeartbeats 2000000 in
theorem contains_any (l : List (List Int)) (x : List Int) (a : Option Addr) (n c : Nat) (w : World) (h : IdsIn w a c l) (hx : IdIn x) (hn : n = l.length) (hm : n ≤ maxLen) :
    Calls Tryd.prog 60 #[.slice a n c, .agg (idC x).toArray] w fun e w' =>
      e = .returned (.bool (decide (x ∈ l))) ∧ Below w.heap.size w w' := by
  have hc := fun w' (hb : Below w.heap.size w w') => index_any l x a n c w' (h.later hb) hx hn hm
  obtain ⟨us, hus⟩ : ∃ v, v = idC (x) := ⟨_, rfl⟩
  have husl := idC_len hx
  have husi := idC_info hx
  have huso := idC_one (x)
  rw [← hus] at husl husi huso
  have husr : us.length = (List.replicate 32 (Value.int .u8 0)).length := by rw [husl]; rfl
  simp only [← hus] at hc ⊢
  obtain ⟨V, hV⟩ : ∃ V, decide (x ∈ l) = V := ⟨_, rfl⟩
  simp only [hV] at hc ⊢
  have H_h := Box.mk h
  have H_hn := Box.mk hn
  have H_hm := Box.mk hm
  have H_hus := Box.mk hus
  have H_husl := Box.mk husl
  have H_husi := Box.mk husi
  have H_huso := Box.mk huso
  have H_husr := Box.mk husr
  have H_hx := Box.mk hx
  have H_hc := Box.mk hc
  have H_hV := Box.mk hV
  clear h hn hm hus husl husi huso husr hx hc hV
  go_enter Tryd.func60, Tryd.ntmps60
  have hb0 := Below.refl w.heap.size w
  go_upto_region 1 with fail
  refine wp_gen fun w1 hc1 => ?_
  have hX : Blk w1 w.heap.size 24 us := Blk.later (Blk.newA w _ _ _ us rfl rfl) hc1
  have hb1 : Below w.heap.size w w1 := bchain (by repeat' (first | with_reducible exact hb0 | with_reducible refine Below.drew ?_ | with_reducible refine below_drewN ?_ _ | with_reducible refine Below.alloc ?_ (by have := hb0.size; first | (simp; done) | (simp; omega) | omega) _ | with_reducible refine Below.setCell ?_ (by first | (simp; done) | (simp; omega) | omega) _)) hc1
  clear hc1
  go_wp2_with (refine wpList_load_blkG (by rfl) 24 _ rfl w.heap.size (by rfl) 24 us _ hX Tryd.underlying24 rfl H_husi.out ?_)
  with_reducible refine (H_hc.out _ hb1).mono ?_
  rintro e w2 ⟨⟨r, rfl, hr, hr1, hr2⟩, hc2⟩
  have hb2 : Below w.heap.size w w2 := bchain (by repeat' (first | with_reducible exact hb1 | with_reducible refine Below.drew ?_ | with_reducible refine below_drewN ?_ _ | with_reducible refine Below.alloc ?_ (by have := hb1.size; first | (simp; done) | (simp; omega) | omega) _ | with_reducible refine Below.setCell ?_ (by first | (simp; done) | (simp; omega) | omega) _)) hc2
  clear hc2 hX
  have hrV : decide (0 ≤ r) = V := hr
  have H_hr := Box.mk hr
  have H_hr1 := Box.mk hr1
  have H_hr2 := Box.mk hr2
  clear hr hr1 hr2
  go_wp2_with fail
  go_ret
  exact ⟨by rw [← hrV]; rfl, hb2⟩

/-- The ids of a list that another lacks. -/
def lackP (a b : List (List Int)) : List (List Int) := a.filter fun x => !decide (x ∈ b)
theorem lack_succ {l : List (List Int)} {k : Nat} (hk : k < l.length) (m : List (List Int)) : lackP (l.take (k + 1)) m = lackP (l.take k) m ++ if decide (pc l k ∈ m) = true then [] else [pc l k] := by
  unfold lackP
  rw [List.take_succ_eq_append_getElem hk, List.filter_append]
  have : pc l k = l[k] := by unfold pc; rw [List.getElem?_eq_getElem hk]; rfl
  rw [this]
  cases h : (decide (l[k] ∈ m)) <;> simp [h]
theorem lack_len (a b : List (List Int)) : (lackP a b).length ≤ a.length := List.length_filter_le ..
set_option maxHeartbeats 2000000 in
theorem rwithout_any (l m : List (List Int)) (a a2 : Option Addr) (n c n2 c2 : Nat) (w : World) (h : IdsIn w a c l) (h2 : IdsIn w a2 c2 m) (hn : n = l.length) (hn2 : n2 = m.length) (hm : n ≤ 1000) (hm2 : n2 ≤ 1000) :
    Calls Tryd.prog 24 #[.slice a n c, .slice a2 n2 c2] w fun e w' =>
      FreshIds w w' (lackP l m) e ∧ Below w.heap.size w w' := by
  obtain ⟨i0, hif, hz0, hz1, hz2⟩ := info_parts info_id32
  have hnI : (n : Int) ≤ 1000 := by omega
  have hrow := fun (hp : 0 < n) => h.row (by omega)
  have hids := fun (k : Nat) (hk : k < n) => h.ids _ (pc_mem (show k < l.length by omega))
  have H_h := Box.mk h
  have H_h2 := Box.mk h2
  have H_hn := Box.mk hn
  have H_hn2 := Box.mk hn2
  have H_hrow := Box.mk hrow
  have H_hids := Box.mk hids
  clear h h2 hn hn2 hrow hids
  go_enter Tryd.func24, Tryd.ntmps24
  have hb0 := Below.refl w.heap.size w
  go_wp2_with fail
  go_loopw [6, 5] (fun q s wr => ∃ (k r : Nat) (av : Option Addr) (cv : Nat), k ≤ n ∧ r ≤ k ∧ q = .int .i64 k ∧ s = .slice av r cv ∧ Below w.heap.size w wr ∧ r = (lackP (l.take k) m).length ∧ OwnX wr w.heap.size 24 32 (.slice av r cv) r (idsC (lackP (l.take k) m))) (fun q s _ => n - (intOf q).toNat)
  case atStart => exact ⟨0, 0, none, 0, Nat.zero_le _, Nat.le_refl _, rfl, rfl, hb0, rfl, OwnX.nil _ _ _ _⟩
  case round =>
    obtain ⟨k, r, av, cv, hk, hmk, rfl, rfl, hbw, hme, ow⟩ := hrel
    by_cases hlt : k < n
    · have hltI : (k : Int) < (n : Int) := by omega
      obtain ⟨b, o, rfl, hbl, hr⟩ := H_hrow.out (by omega)
      have hxk := H_hids.out k hlt
      have hrk := rangeAt_later (hr k (by have := H_hn.out; omega)) hbw
      have hik := idC_info hxk
      have hc := fun w' (hb : Below w.heap.size w w') => in_any m (pc l k) a2 n2 c2 w' (H_h2.out.later hb) hxk H_hn2.out (by unfold maxLen; omega)
      have hsc := lack_succ (l := l) (k := k) (by have := H_hn.out; omega) m
      have hul := idC_len hxk
      have huo := idC_one (pc l k)
      obtain ⟨us, hus⟩ : ∃ us, us = idC (pc l k) := ⟨_, rfl⟩
      obtain ⟨bb, hbb⟩ : ∃ bb, decide (pc l k ∈ m) = bb := ⟨_, rfl⟩
      rw [hbb] at hsc
      simp only [← hus, hbb] at hc hrk hik hul huo
      cases bb with
      | false =>
        rw [if_neg (by simp)] at hsc
        have H_hus := Box.mk hus
        have H_hbb := Box.mk hbb
        have H_hc := Box.mk hc
        have H_hsc := Box.mk hsc
        have H_hr := Box.mk hr
        have H_hxk := Box.mk hxk
        have H_hme := Box.mk hme
        have H_hul := Box.mk hul
        have H_huo := Box.mk huo
        clear hus hbb hc hsc hr hxk hme hul huo
        go_wp2_with (refine wpList_load_mid rfl 24 _ rfl b (o + k * 32) (by rfl) us _ hrk Tryd.underlying24 rfl hik ?_)
        with_reducible refine (H_hc.out _ hbw).mono ?_
        rintro e w11 ⟨rfl, hc11⟩
        have ow1 := ow.later hc11
        have hrk1 := rangeAt_later hrk hc11
        have hb11 : Below w.heap.size w w11 := bchain (by repeat' (first | with_reducible exact hbw | with_reducible refine Below.drew ?_ | with_reducible refine below_drewN ?_ _ | with_reducible refine Below.alloc ?_ (by have := hbw.size; first | (simp; done) | (simp; omega) | omega) _ | with_reducible refine Below.setCell ?_ (by first | (simp; done) | (simp; omega) | omega) _)) hc11
        clear hc11 ow hrk
        go_wp2_with (first | (refine wpList_load_mid rfl 24 _ rfl b (o + k * 32) (by rfl) us _ hrk1 Tryd.underlying24 rfl hik ?_) | (refine wpList_build_id rfl _ rfl us (by rfl) H_hul.out ?_) | (at_builtin; refine stop ?_))
        refine Stop.go ?_
        refine wpList_append_x _ rfl _ _ 22 rfl w.heap.size 24 i0 _ 32 32 Tryd.underlying22 hif hz0 hz1 hz2 oneCell_idz (by decide) (.slice av r cv) r _ rfl (ow1.alloc _) (some ⟨w11.heap.size, 0, none⟩) 1 1 us (by rfl) (by rw [H_hul.out]) (Blk.cellsRow (Blk.newA w11 _ _ _ us rfl rfl)) H_huo.out (by unfold maxLen; omega) (by omega) (by have := hb11.size; simp; omega) ?_
        intro a5 c5 w5 o5 hg hk5
        have hb5 : Below w.heap.size w w5 := below_grownX ((by repeat' (first | with_reducible exact hb11 | with_reducible refine Below.drew ?_ | with_reducible refine below_drewN ?_ _ | with_reducible refine Below.alloc ?_ (by have := hb11.size; first | (simp; done) | (simp; omega) | omega) _ | with_reducible refine Below.setCell ?_ (by first | (simp; done) | (simp; omega) | omega) _))) hg (by have := hb11.size; simp; omega) (fun q h => (ow1.lt q h).1)
        clear hk5 ow1 hrk1 hg
        go_wp2_with fail
        go_roundw
        case rel => exact ⟨k + 1, r + 1, a5, c5, by omega, by omega, by go_num, rfl, hb5, by rw [H_hsc.out, List.length_append, ← H_hme.out]; rfl, by rw [H_hsc.out, idsC_append, idsC_single, ← H_hus.out]; exact o5⟩
        case measure => simp [intOf]; omega
      | true =>
        rw [if_pos rfl, List.append_nil] at hsc
        have H_hus := Box.mk hus
        have H_hbb := Box.mk hbb
        have H_hc := Box.mk hc
        have H_hsc := Box.mk hsc
        have H_hr := Box.mk hr
        have H_hxk := Box.mk hxk
        have H_hme := Box.mk hme
        have H_hul := Box.mk hul
        have H_huo := Box.mk huo
        clear hus hbb hc hsc hr hxk hme hul huo
        go_wp2_with (refine wpList_load_mid rfl 24 _ rfl b (o + k * 32) (by rfl) us _ hrk Tryd.underlying24 rfl hik ?_)
        with_reducible refine (H_hc.out _ hbw).mono ?_
        rintro e w11 ⟨rfl, hc11⟩
        have ow1 := ow.later hc11
        have hb11 : Below w.heap.size w w11 := bchain (by repeat' (first | with_reducible exact hbw | with_reducible refine Below.drew ?_ | with_reducible refine below_drewN ?_ _ | with_reducible refine Below.alloc ?_ (by have := hbw.size; first | (simp; done) | (simp; omega) | omega) _ | with_reducible refine Below.setCell ?_ (by first | (simp; done) | (simp; omega) | omega) _)) hc11
        clear hc11 ow hrk
        go_wp2_with fail
        go_roundw
        case rel => exact ⟨k + 1, r, av, cv, by omega, by omega, by go_num, rfl, hb11, by rw [H_hsc.out]; exact H_hme.out, by rw [H_hsc.out]; exact ow1⟩
        case measure => simp [intOf]; omega
    · skip
      have hge : (n : Int) ≤ (k : Int) := by omega
      obtain rfl : k = n := by omega
      have e1 : l.take k = l := List.take_of_length_le (by have := H_hn.out; omega)
      rw [e1] at hme ow
      have H_hme := Box.mk hme
      clear hme
      clear hlt
      go_wp2_with fail
      go_ret
      refine ⟨⟨av, cv, ?_, ?_⟩, hbw⟩
      · rw [← H_hme.out]; rfl
      · rw [← H_hme.out]; exact ow
set_option maxHeartbeats 2000000 in
theorem without_any (l m : List (List Int)) (a a2 : Option Addr) (n c n2 c2 : Nat) (w : World) (h : IdsIn w a c l) (h2 : IdsIn w a2 c2 m) (hn : n = l.length) (hn2 : n2 = m.length) (hm : n ≤ 1000) (hm2 : n2 ≤ 1000) :
    Calls Tryd.prog 53 #[.slice a n c, .slice a2 n2 c2] w fun e w' =>
      FreshIds w w' (lackP l m) e ∧ Below w.heap.size w w' := by
  obtain ⟨i0, hif, hz0, hz1, hz2⟩ := info_parts info_id32
  have hnI : (n : Int) ≤ 1000 := by omega
  have hrow := fun (hp : 0 < n) => h.row (by omega)
  have hids := fun (k : Nat) (hk : k < n) => h.ids _ (pc_mem (show k < l.length by omega))
  have H_h := Box.mk h
  have H_h2 := Box.mk h2
  have H_hn := Box.mk hn
  have H_hn2 := Box.mk hn2
  have H_hrow := Box.mk hrow
  have H_hids := Box.mk hids
  clear h h2 hn hn2 hrow hids
  go_enter Tryd.func53, Tryd.ntmps53
  have hb0 := Below.refl w.heap.size w
  go_wp2_with fail
  go_loopw [10, 5] (fun q s wr => ∃ (k r : Nat) (av : Option Addr) (cv : Nat), k ≤ n ∧ r ≤ k ∧ q = .int .i64 k ∧ s = .slice av r cv ∧ Below w.heap.size w wr ∧ r = (lackP (l.take k) m).length ∧ OwnX wr w.heap.size 24 32 (.slice av r cv) r (idsC (lackP (l.take k) m))) (fun q s _ => n - (intOf q).toNat)
  case atStart => exact ⟨0, 0, none, 0, Nat.zero_le _, Nat.le_refl _, rfl, rfl, hb0, rfl, OwnX.nil _ _ _ _⟩
  case round =>
    obtain ⟨k, r, av, cv, hk, hmk, rfl, rfl, hbw, hme, ow⟩ := hrel
    by_cases hlt : k < n
    · have hltI : (k : Int) < (n : Int) := by omega
      obtain ⟨b, o, rfl, hbl, hr⟩ := H_hrow.out (by omega)
      have hxk := H_hids.out k hlt
      have hrk := rangeAt_later (hr k (by have := H_hn.out; omega)) hbw
      have hc := fun w' (hb : Below w.heap.size w w') => contains_any m (pc l k) a2 n2 c2 w' (H_h2.out.later hb) hxk H_hn2.out (by unfold maxLen; omega)
      have hsc := lack_succ (l := l) (k := k) (by have := H_hn.out; omega) m
      obtain ⟨us, hus⟩ : ∃ v, v = idC (pc l k) := ⟨_, rfl⟩
      have husl := idC_len hxk
      have husi := idC_info hxk
      have huso := idC_one (pc l k)
      rw [← hus] at husl husi huso
      have husr : us.length = (List.replicate 32 (Value.int .u8 0)).length := by rw [husl]; rfl
      obtain ⟨bb, hbb⟩ : ∃ bb, decide (pc l k ∈ m) = bb := ⟨_, rfl⟩
      rw [hbb] at hsc
      simp only [← hus, hbb] at hc hrk
      have H_hus := Box.mk hus
      have H_hbb := Box.mk hbb
      have H_hc := Box.mk hc
      have H_hr := Box.mk hr
      have H_hxk := Box.mk hxk
      have H_hme := Box.mk hme
      have H_husl := Box.mk husl
      have H_husi := Box.mk husi
      have H_huso := Box.mk huso
      have H_husr := Box.mk husr
      clear hus hbb hc hr hxk hme husl husi huso husr
      have hN := Blk.new wr wr.heap.size (List.replicate 32 (Value.int .u8 0)) 24 rfl
      go_upto_region 5 with (first | (refine wpList_load_mid rfl 24 _ rfl b (o + k * 32) (by rfl) us _ hrk Tryd.underlying24 rfl H_husi.out ?_) | (refine wpList_store_blk rfl 24 _ _ rfl wr.heap.size (by rfl) 24 _ us (by rfl) hN H_husr.out H_husi.out H_huso.out ?_; intro w11 hX he; have HW := Box.mk he; clear he))
      have hc11 : Below wr.heap.size wr w11 := HW.out ▸ below_setCells (Nat.le_refl _) _ _ _ ((Below.refl _ _).alloc (Nat.le_refl _) _)
      have ow1 := ow.later hc11
      have hb11 : Below w.heap.size w w11 := bchain (by repeat' (first | with_reducible exact hbw | with_reducible refine Below.drew ?_ | with_reducible refine below_drewN ?_ _ | with_reducible refine Below.alloc ?_ (by have := hbw.size; first | (simp; done) | (simp; omega) | omega) _ | with_reducible refine Below.setCell ?_ (by first | (simp; done) | (simp; omega) | omega) _)) hc11
      clear hc11 ow hrk hN HW
      go_wp2_with (refine wpList_load_blkG (by rfl) 24 _ rfl wr.heap.size (by rfl) 24 us _ hX Tryd.underlying24 rfl H_husi.out ?_)
      with_reducible refine (H_hc.out _ hb11).mono ?_
      rintro e w12 ⟨rfl, hc12⟩
      have ow2 := ow1.later hc12
      have hX2 := hX.later hc12
      have hb12 : Below w.heap.size w w12 := bchain (by repeat' (first | with_reducible exact hb11 | with_reducible refine Below.drew ?_ | with_reducible refine below_drewN ?_ _ | with_reducible refine Below.alloc ?_ (by have := hb11.size; first | (simp; done) | (simp; omega) | omega) _ | with_reducible refine Below.setCell ?_ (by first | (simp; done) | (simp; omega) | omega) _)) hc12
      clear hc12 ow1 hX
      cases bb with
      | false =>
        rw [if_neg (by simp)] at hsc
        have H_hsc := Box.mk hsc
        clear hsc
        go_wp2_with (first | (refine wpList_load_blkG (by rfl) 24 _ rfl wr.heap.size (by rfl) 24 us _ hX2 Tryd.underlying24 rfl H_husi.out ?_) | (refine wpList_build_id rfl _ rfl us (by rfl) H_husl.out ?_) | (at_builtin; refine stop ?_))
        refine Stop.go ?_
        refine wpList_append_x _ rfl _ _ 22 rfl w.heap.size 24 i0 _ 32 32 Tryd.underlying22 hif hz0 hz1 hz2 oneCell_idz (by decide) (.slice av r cv) r _ rfl (ow2.alloc _) (some ⟨w12.heap.size, 0, none⟩) 1 1 us (by rfl) (by rw [H_husl.out]) (Blk.cellsRow (Blk.newA w12 _ _ _ us rfl rfl)) H_huso.out (by unfold maxLen; omega) (by omega) (by have := hb12.size; simp; omega) ?_
        intro a5 c5 w5 o5 hg hk5
        have hb5 : Below w.heap.size w w5 := below_grownX ((by repeat' (first | with_reducible exact hb12 | with_reducible refine Below.drew ?_ | with_reducible refine below_drewN ?_ _ | with_reducible refine Below.alloc ?_ (by have := hb12.size; first | (simp; done) | (simp; omega) | omega) _ | with_reducible refine Below.setCell ?_ (by first | (simp; done) | (simp; omega) | omega) _))) hg (by have := hb12.size; simp; omega) (fun q h => (ow2.lt q h).1)
        clear hk5 ow2 hX2 hg
        go_wp2_with fail
        go_roundw
        case rel => exact ⟨k + 1, r + 1, a5, c5, by omega, by omega, by go_num, rfl, hb5, by rw [H_hsc.out, List.length_append, ← H_hme.out]; rfl, by rw [H_hsc.out, idsC_append, idsC_single, ← H_hus.out]; exact o5⟩
        case measure => simp [intOf]; omega
      | true =>
        rw [if_pos rfl, List.append_nil] at hsc
        have H_hsc := Box.mk hsc
        clear hsc
        clear hX2
        go_wp2_with fail
        go_roundw
        case rel => exact ⟨k + 1, r, av, cv, by omega, by omega, by go_num, rfl, hb12, by rw [H_hsc.out]; exact H_hme.out, by rw [H_hsc.out]; exact ow2⟩
        case measure => simp [intOf]; omega
    · skip
      have hge : (n : Int) ≤ (k : Int) := by omega
      obtain rfl : k = n := by omega
      have e1 : l.take k = l := List.take_of_length_le (by have := H_hn.out; omega)
      rw [e1] at hme ow
      have H_hme := Box.mk hme
      clear hme
      clear hlt
      go_wp2_with fail
      go_ret
      refine ⟨⟨av, cv, ?_, ?_⟩, hbw⟩
      · rw [← H_hme.out]; rfl
      · rw [← H_hme.out]; exact ow

end Go.Proofs.YtfabcdpmnbeflaaDoor

/- Two lists descended: what down computes; its state in memory. -/
namespace Go.Proofs.YtfabcdpmnbeflaaDoor
open Go.RowKit
set_option linter.unusedVariables false

/-- What descending gives: the left ids, the right ids, the questions asked. -/
structure DescA where
  l : List (List Int)
  r : List (List Int)
  n : Nat
def descF : Nat → List (List Int) → List (List Int) → DescA
  | 0, _, _ => ⟨[], [], 1⟩
  | m + 1, a, b =>
    if rootP a = rootP b then ⟨[], [], 1⟩
    else if a.length < 2 ∨ b.length < 2 then ⟨lackP a b, lackP b a, 1⟩
    else
      let p := descF m (zerosL a (splitN (a ++ b))) (zerosL b (splitN (a ++ b)))
      let q := descF m (onesL a (splitN (a ++ b))) (onesL b (splitN (a ++ b)))
      ⟨p.l ++ q.l, p.r ++ q.r, 1 + p.n + q.n⟩
theorem descF_eq {m : Nat} {a b : List (List Int)} (h : rootP a = rootP b) : descF m a b = ⟨[], [], 1⟩ := by
  cases m with
  | zero => rfl
  | succ m => unfold descF; rw [if_pos h]
theorem descF_few {m : Nat} {a b : List (List Int)} (h : rootP a ≠ rootP b) (h2 : a.length < 2 ∨ b.length < 2) : descF (m + 1) a b = ⟨lackP a b, lackP b a, 1⟩ := by
  unfold descF; rw [if_neg h, if_pos h2]
theorem descF_more {m : Nat} {a b : List (List Int)} (h : rootP a ≠ rootP b) (h2 : ¬ (a.length < 2 ∨ b.length < 2)) {N : Nat} (hN : splitN (a ++ b) = N) : descF (m + 1) a b =
    ⟨(descF m (zerosL a N) (zerosL b N)).l ++ (descF m (onesL a N) (onesL b N)).l, (descF m (zerosL a N) (zerosL b N)).r ++ (descF m (onesL a N) (onesL b N)).r, 1 + (descF m (zerosL a N) (zerosL b N)).n + (descF m (onesL a N) (onesL b N)).n⟩ := by
  subst hN
  conv => lhs; unfold descF
  rw [if_neg h, if_neg h2]

/-- What down is told of the search. -/
structure SeaW (w : World) (sb : Nat) (l r : List (List Int)) (k : Nat) (la : Option Addr) (lc : Nat) (ra : Option Addr) (rc : Nat) : Prop where
  p : Blk w sb 70 [.slice la l.length lc, .slice ra r.length rc, .int .i64 k]
  a : OwnX w (sb + 1) 24 32 (.slice la l.length lc) l.length (idsC l)
  b : OwnX w (sb + 1) 24 32 (.slice ra r.length rc) r.length (idsC r)
  ne : ∀ q, (Value.slice la l.length lc).ownBlock = some q → (Value.slice ra r.length rc).ownBlock ≠ some q
theorem SeaW.later {w w' : World} {sb : Nat} {l r : List (List Int)} {k : Nat} {la : Option Addr} {lc : Nat} {ra : Option Addr} {rc : Nat} (h : SeaW w sb l r k la lc ra rc) (hb : Below w.heap.size w w') : SeaW w' sb l r k la lc ra rc :=
  ⟨h.p.later hb, h.a.later hb, h.b.later hb, h.ne⟩
theorem SeaW.farA {w : World} {sb : Nat} {l r : List (List Int)} {k : Nat} {la : Option Addr} {lc : Nat} {ra : Option Addr} {rc : Nat} (h : SeaW w sb l r k la lc ra rc) : (Value.slice la l.length lc).ownBlock ≠ some sb := fun e => by have := (h.a.lt _ e).1; omega
theorem SeaW.farB {w : World} {sb : Nat} {l r : List (List Int)} {k : Nat} {la : Option Addr} {lc : Nat} {ra : Option Addr} {rc : Nat} (h : SeaW w sb l r k la lc ra rc) : (Value.slice ra r.length rc).ownBlock ≠ some sb := fun e => by have := (h.b.lt _ e).1; omega
/-- One question more. -/
theorem SeaW.tick {w : World} {sb : Nat} {l r : List (List Int)} {k : Nat} {la : Option Addr} {lc : Nat} {ra : Option Addr} {rc : Nat} (h : SeaW w sb l r k la lc ra rc) (j : Nat) (v : Int) (hv : v = j) : SeaW (w.setCell ⟨sb, 2, none⟩ (.int .i64 v)) sb l r j la lc ra rc := by
  subst hv
  exact ⟨h.p.set 2 _, h.a.setFar (a := ⟨sb, 2, none⟩) h.farA _, h.b.setFar (a := ⟨sb, 2, none⟩) h.farB _, h.ne⟩
/-- The search where an append on the left row may come. -/
structure SeaC (w0 : World) (sb : Nat) (l r : List (List Int)) (k : Nat) (la : Option Addr) (lc : Nat) (ra : Option Addr) (rc : Nat) (w : World) : Prop where
  bel : Below (sb + 1) w0 w
  size : w0.heap.size ≤ w.heap.size
  s : SeaW w sb l r k la lc ra rc
theorem SeaC.later {w0 w w' : World} {sb : Nat} {l r : List (List Int)} {k : Nat} {la : Option Addr} {lc : Nat} {ra : Option Addr} {rc : Nat} (h : SeaC w0 sb l r k la lc ra rc w) (hs : sb + 1 ≤ w0.heap.size) (hb : Below w.heap.size w w') : SeaC w0 sb l r k la lc ra rc w' :=
  ⟨h.bel.trans (hb.mono (Nat.le_trans hs h.size)), Nat.le_trans h.size hb.size, h.s.later hb⟩
theorem SeaC.appA {w0 w w' : World} {sb : Nat} {l r : List (List Int)} {k : Nat} {la : Option Addr} {lc : Nat} {ra : Option Addr} {rc : Nat} (h : SeaC w0 sb l r k la lc ra rc w) (hs : sb + 1 ≤ w0.heap.size) (hg : w.grownBy w' (Value.slice la l.length lc).ownBlock) (ha : OwnX w' (sb + 1) 24 32 (.slice la l.length lc) l.length (idsC l)) : SeaC w0 sb l r k la lc ra rc w' :=
  ⟨below_grownX h.bel hg (Nat.le_trans hs h.size) fun q hq => (h.s.a.lt q hq).1, Nat.le_trans h.size hg.size, h.s.p.grown hg h.s.farA, ha, h.s.b.kept hg (by
    cases e : (Value.slice ra r.length rc).ownBlock with
    | none => exact .inl rfl
    | some q => exact .inr fun e2 => h.s.ne q e2.symm e), h.s.ne⟩
theorem SeaC.appB {w0 w w' : World} {sb : Nat} {l r : List (List Int)} {k : Nat} {la : Option Addr} {lc : Nat} {ra : Option Addr} {rc : Nat} (h : SeaC w0 sb l r k la lc ra rc w) (hs : sb + 1 ≤ w0.heap.size) (hg : w.grownBy w' (Value.slice ra r.length rc).ownBlock) (hb : OwnX w' (sb + 1) 24 32 (.slice ra r.length rc) r.length (idsC r)) : SeaC w0 sb l r k la lc ra rc w' :=
  ⟨below_grownX h.bel hg (Nat.le_trans hs h.size) fun q hq => (h.s.b.lt q hq).1, Nat.le_trans h.size hg.size, h.s.p.grown hg h.s.farB, h.s.a.kept hg (by
    cases e : (Value.slice la l.length lc).ownBlock with
    | none => exact .inl rfl
    | some q => exact .inr fun e2 => h.s.ne q e e2.symm), hb, h.s.ne⟩
/-- The left row anew. -/
theorem SeaW.putA {w : World} {sb : Nat} {l l' r : List (List Int)} {k L : Nat} {la : Option Addr} {lc : Nat} {ra : Option Addr} {rc : Nat} {a' : Option Addr} {c' : Nat} (h : SeaW w sb l r k la lc ra rc) (o : OwnX w (sb + 1) 24 32 (.slice a' l'.length c') l'.length (idsC l'))
    (hk : ∀ q, (Value.slice a' l'.length c').ownBlock = some q → (Value.slice la l.length lc).ownBlock = some q ∨ L ≤ q) (hL : ∀ q, (Value.slice ra r.length rc).ownBlock = some q → q < L) : SeaW (w.setCell ⟨sb, 0, none⟩ (.slice a' l'.length c')) sb l' r k a' c' ra rc :=
  ⟨h.p.set 0 _, o.setFar (a := ⟨sb, 0, none⟩) (fun e => by have := (o.lt _ e).1; simp at this; omega) _, h.b.setFar (a := ⟨sb, 0, none⟩) h.farB _, fun q h1 h2 => by
    rcases hk q h1 with h3 | h3
    · exact h.ne q h3 h2
    · have := hL q h2; omega⟩
theorem SeaW.putB {w : World} {sb : Nat} {l r r' : List (List Int)} {k L : Nat} {la : Option Addr} {lc : Nat} {ra : Option Addr} {rc : Nat} {a' : Option Addr} {c' : Nat} (h : SeaW w sb l r k la lc ra rc) (o : OwnX w (sb + 1) 24 32 (.slice a' r'.length c') r'.length (idsC r'))
    (hk : ∀ q, (Value.slice a' r'.length c').ownBlock = some q → (Value.slice ra r.length rc).ownBlock = some q ∨ L ≤ q) (hL : ∀ q, (Value.slice la l.length lc).ownBlock = some q → q < L) : SeaW (w.setCell ⟨sb, 1, none⟩ (.slice a' r'.length c')) sb l r' k la lc a' c' :=
  ⟨h.p.set 1 _, h.a.setFar (a := ⟨sb, 1, none⟩) h.farA _, o.setFar (a := ⟨sb, 1, none⟩) (fun e => by have := (o.lt _ e).1; simp at this; omega) _, fun q h1 h2 => by
    rcases hk q h2 with h3 | h3
    · exact h.ne q h1 h3
    · have := hL q h1; omega⟩
theorem IdsIn.below {w w' : World} {B : Nat} {a : Option Addr} {c : Nat} {l : List (List Int)} (h : IdsIn w a c l) (hb : Below B w w') (hB : ∀ x, a = some x → x.block < B) : IdsIn w' a c l :=
  ⟨h.cells.below hb fun b o e => hB _ e, h.ids, h.cap⟩
theorem TabK.below {w w' : World} {B : Nat} (h : TabK w) (hb : Below B w w') (hB : 1 < B) (hz : B ≤ w'.heap.size) : TabK w' :=
  ⟨h.k.below hb fun b o e => by cases e; exact hB, by omega⟩
/-- The memory within a call of down. -/
structure DnW (w wi : World) (sb : Nat) (aa : Option Addr) (ac : Nat) (a : List (List Int)) (ba : Option Addr) (bc : Nat) (b : List (List Int)) (l r : List (List Int)) (k : Nat) (la : Option Addr) (lc : Nat) (ra : Option Addr) (rc : Nat) : Prop where
  bel : Below sb w wi
  size : sb + 1 ≤ wi.heap.size
  A : IdsIn wi aa ac a
  B : IdsIn wi ba bc b
  T : TabK wi
  S : SeaW wi sb l r k la lc ra rc
section
variable {w wi w' : World} {sb : Nat} {aa : Option Addr} {ac : Nat} {a : List (List Int)} {ba : Option Addr} {bc : Nat} {b : List (List Int)} {l r : List (List Int)} {k : Nat} {la : Option Addr} {lc : Nat} {ra : Option Addr} {rc : Nat}
theorem DnW.later (h : DnW w wi sb aa ac a ba bc b l r k la lc ra rc) (hc : Below wi.heap.size wi w') : DnW w w' sb aa ac a ba bc b l r k la lc ra rc :=
  ⟨h.bel.trans (hc.mono (by have := h.size; omega)), Nat.le_trans h.size hc.size, h.A.later hc, h.B.later hc, h.T.later hc, h.S.later hc⟩
/-- The search has been written. -/
theorem DnW.put {l' r' : List (List Int)} {k' : Nat} {la' : Option Addr} {lc' : Nat} {ra' : Option Addr} {rc' : Nat} (h : DnW w wi sb aa ac a ba bc b l r k la lc ra rc) (hc : Below sb wi w') (hz : sb + 1 ≤ w'.heap.size) (hA : ∀ x, aa = some x → x.block < sb) (hB : ∀ x, ba = some x → x.block < sb) (hG : 1 < sb) (hS : SeaW w' sb l' r' k' la' lc' ra' rc') : DnW w w' sb aa ac a ba bc b l' r' k' la' lc' ra' rc' :=
  ⟨h.bel.trans hc, hz, h.A.below hc hA, h.B.below hc hB, h.T.below hc hG (by omega), hS⟩
end
/-- What a call of down brings about. -/
def DownOk (a b : List (List Int)) (D : DescA) : Prop := ∀ (aa ba : Option Addr) (ac bc sb : Nat) (l r : List (List Int)) (k : Nat) (la : Option Addr) (lc : Nat) (ra : Option Addr) (rc : Nat) (w : World), IdsIn w aa ac a → IdsIn w ba bc b → (∀ x, aa = some x → x.block < sb) → (∀ x, ba = some x → x.block < sb) → TabK w → 1 < sb → SeaW w sb l r k la lc ra rc → l.length + a.length ≤ 400 → r.length + b.length ≤ 400 → k + 2 * (a.length + b.length) + 1 ≤ 10000 →
  Calls Tryd.prog 41 #[.pointer (some ⟨sb, 0, none⟩), .slice aa a.length ac, .slice ba b.length bc] w fun e w' =>
    e = .returned (.int .i64 0) ∧ Below sb w w' ∧ ∃ la' lc' ra' rc', SeaW w' sb (l ++ D.l) (r ++ D.r) (k + D.n) la' lc' ra' rc'

end Go.Proofs.YtfabcdpmnbeflaaDoor

/- down: two lists whose roots are the same. -/
namespace Go.Proofs.YtfabcdpmnbeflaaDoor
set_option linter.unusedSimpArgs false
set_option linter.unusedVariables false
set_option linter.unnecessarySimpa false
open Go.RowKit
set_option maxRecDepth 100000

set_option maxHeartbeats 4000000 in
theorem down_same (a b : List (List Int)) (ha : IncL a) (hb : IncL b) (h60 : a.length ≤ 60) (h60b : b.length ≤ 60) (hrr : rootP a = rootP b) : DownOk a b ⟨[], [], 1⟩ := by
  intro aa ba ac bc sb l r k la lc ra rc w hA hB hAs hBs hT hG hS hl hr hk
  have hra := fun (W : World) (h1 : IdsIn W aa ac a) (h2 : TabK W) => root_ok a.length a (Nat.le_refl _) (by omega) ha aa ac W h1 h2
  have hrb := fun (W : World) (h1 : IdsIn W ba bc b) (h2 : TabK W) => root_ok b.length b (Nat.le_refl _) (by omega) hb ba bc W h1 h2
  have heq := fun w => eq_ids (rootP a) (rootP b) (rootP_id a).len (rootP_id b).len w
  obtain ⟨us, hus⟩ : ∃ v, v = idC (rootP a) := ⟨_, rfl⟩
  have husl := idC_len (rootP_id a)
  have husi := idC_info (rootP_id a)
  have huso := idC_one (rootP a)
  rw [← hus] at husl husi huso
  have husr : us.length = (List.replicate 32 (Value.int .u8 0)).length := by rw [husl]; rfl
  obtain ⟨vs, hvs⟩ : ∃ v, v = idC (rootP b) := ⟨_, rfl⟩
  have hvsl := idC_len (rootP_id b)
  have hvsi := idC_info (rootP_id b)
  have hvso := idC_one (rootP b)
  rw [← hvs] at hvsl hvsi hvso
  have hvsr : vs.length = (List.replicate 32 (Value.int .u8 0)).length := by rw [hvsl]; rfl
  obtain ⟨bb, hbb⟩ : ∃ bb, (rootP a == rootP b) = bb := ⟨_, rfl⟩
  have heq' : ∀ w, (Op.equalIn 10000 24 (.agg us.toArray) (.agg vs.toArray)).run Tryd.prog w = .ok bb w := fun w => by
    rw [hus, hvs, ← hbb]; exact heq w
  simp only [GivesId, ← hus] at hra
  simp only [GivesId, ← hvs] at hrb
  have S_2 : w.cell? ⟨sb, 2, none⟩ = some (.int .i64 k) := hS.p.cell (j := 2) rfl
  have S_f := hS.p.free 2
  have hkI : (k : Int) ≤ 10000 := by omega
  have hS1 := hS.tick (k + 1) ((k : Int) + 1) (by omega)
  have hbel : Below sb w (w.setCell ⟨sb, 2, none⟩ (.int .i64 ((k : Int) + 1))) := (Below.refl _ _).setCell (by simp) _
  have hD0 : DnW w (w.setCell ⟨sb, 2, none⟩ (.int .i64 ((k : Int) + 1))) sb aa ac a ba bc b l r (k + 1) la lc ra rc := ⟨hbel, by have := hS.p.lt; simp; omega, hA.below hbel hAs, hB.below hbel hBs, hT.below hbel hG (by have := hS.p.lt; simp; omega), hS1⟩
  have H_hus := Box.mk hus
  have H_husl := Box.mk husl
  have H_husi := Box.mk husi
  have H_huso := Box.mk huso
  have H_husr := Box.mk husr
  have H_hvs := Box.mk hvs
  have H_hvsl := Box.mk hvsl
  have H_hvsi := Box.mk hvsi
  have H_hvso := Box.mk hvso
  have H_hvsr := Box.mk hvsr
  have H_hra := Box.mk hra
  have H_hrb := Box.mk hrb
  have H_hA := Box.mk hA
  have H_hB := Box.mk hB
  have H_hAs := Box.mk hAs
  have H_hBs := Box.mk hBs
  have H_hT := Box.mk hT
  have H_hG := Box.mk hG
  have H_hS := Box.mk hS
  have H_hbb := Box.mk hbb
  have H_heq := Box.mk heq
  have H_ha := Box.mk ha
  have H_hb := Box.mk hb
  have H_hS1 := Box.mk hS1
  clear hus husl husi huso husr hvs hvsl hvsi hvso hvsr hra hrb hA hB hAs hBs hT hG hS hbb heq ha hb hS1
  clear hbel
  go_enter Tryd.func41, Tryd.ntmps41
  have hb0 := Below.refl w.heap.size w
  go_upto_region 2 with fail
  refine wp_gen fun w1 hc1 => ?_
  have hD1 := hD0.later hc1
  clear hc1 hD0 S_2 S_f
  go_wp2_with fail
  with_reducible refine (H_hra.out _ hD1.A hD1.T).mono ?_
  rintro e w2 ⟨rfl, hc2⟩
  have hD2 := hD1.later hc2
  clear hc2 hD1
  have hN := Blk.new w2 w2.heap.size (List.replicate 32 (Value.int .u8 0)) 24 rfl
  go_upto_region 3 with (refine wpList_store_blk rfl 24 _ _ rfl w2.heap.size (by rfl) 24 _ us (by rfl) hN H_husr.out H_husi.out H_huso.out ?_; intro w3 hX he; have HW := Box.mk he; clear he)
  have hc3 : Below w2.heap.size w2 w3 := HW.out ▸ below_setCells (Nat.le_refl _) _ _ _ ((Below.refl _ _).alloc (Nat.le_refl _) _)
  have hD3 := hD2.later hc3
  clear hc3 hD2 hN HW
  go_wp2_with fail
  with_reducible refine (H_hrb.out _ hD3.B hD3.T).mono ?_
  rintro e w4 ⟨rfl, hc4⟩
  have hD4 := hD3.later hc4
  have hX4 := hX.later hc4
  clear hc4 hD3 hX
  have hN := Blk.new w4 w4.heap.size (List.replicate 32 (Value.int .u8 0)) 24 rfl
  go_upto_region 6 with (refine wpList_store_blk rfl 24 _ _ rfl w4.heap.size (by rfl) 24 _ vs (by rfl) hN H_hvsr.out H_hvsi.out H_hvso.out ?_; intro w5 hY he; have HW := Box.mk he; clear he)
  have hc5 : Below w4.heap.size w4 w5 := HW.out ▸ below_setCells (Nat.le_refl _) _ _ _ ((Below.refl _ _).alloc (Nat.le_refl _) _)
  have hD5 := hD4.later hc5
  have hX5 := hX4.later hc5
  clear hc5 hD4 hX4 hN HW
  obtain rfl : bb = true := by rw [← H_hbb.out, hrr]; simp
  go_wp2_with (first | (refine wpList_load_blkG (by rfl) 24 _ rfl w2.heap.size (by rfl) 24 us _ hX5 Tryd.underlying24 rfl H_husi.out ?_) | (refine wpList_load_blkG (by rfl) 24 _ rfl w4.heap.size (by rfl) 24 vs _ hY Tryd.underlying24 rfl H_hvsi.out ?_))
  go_ret
  exact ⟨rfl, hD5.bel, la, lc, ra, rc, by simpa using hD5.S⟩

set_option maxHeartbeats 8000000 in
theorem down_few (a b : List (List Int)) (ha : IncL a) (hb : IncL b) (h60 : a.length ≤ 60) (h60b : b.length ≤ 60) (hrr : rootP a ≠ rootP b) (h2 : a.length < 2 ∨ b.length < 2) : DownOk a b ⟨lackP a b, lackP b a, 1⟩ := by
  obtain ⟨j0, jif, jz0, jz1, jz2⟩ := info_parts info_id32
  have H_jif := Box.mk jif
  have H_jz0 := Box.mk jz0
  have H_jz1 := Box.mk jz1
  have H_jz2 := Box.mk jz2
  clear jif jz0 jz1 jz2
  intro aa ba ac bc sb l r k la lc ra rc w hA hB hAs hBs hT hG hS hl hr hk
  have hra := fun (W : World) (h1 : IdsIn W aa ac a) (h2 : TabK W) => root_ok a.length a (Nat.le_refl _) (by omega) ha aa ac W h1 h2
  have hrb := fun (W : World) (h1 : IdsIn W ba bc b) (h2 : TabK W) => root_ok b.length b (Nat.le_refl _) (by omega) hb ba bc W h1 h2
  have heq := fun w => eq_ids (rootP a) (rootP b) (rootP_id a).len (rootP_id b).len w
  obtain ⟨us, hus⟩ : ∃ v, v = idC (rootP a) := ⟨_, rfl⟩
  have husl := idC_len (rootP_id a)
  have husi := idC_info (rootP_id a)
  have huso := idC_one (rootP a)
  rw [← hus] at husl husi huso
  have husr : us.length = (List.replicate 32 (Value.int .u8 0)).length := by rw [husl]; rfl
  obtain ⟨vs, hvs⟩ : ∃ v, v = idC (rootP b) := ⟨_, rfl⟩
  have hvsl := idC_len (rootP_id b)
  have hvsi := idC_info (rootP_id b)
  have hvso := idC_one (rootP b)
  rw [← hvs] at hvsl hvsi hvso
  have hvsr : vs.length = (List.replicate 32 (Value.int .u8 0)).length := by rw [hvsl]; rfl
  obtain ⟨bb, hbb⟩ : ∃ bb, (rootP a == rootP b) = bb := ⟨_, rfl⟩
  have heq' : ∀ w, (Op.equalIn 10000 24 (.agg us.toArray) (.agg vs.toArray)).run Tryd.prog w = .ok bb w := fun w => by
    rw [hus, hvs, ← hbb]; exact heq w
  simp only [GivesId, ← hus] at hra
  simp only [GivesId, ← hvs] at hrb
  have S_2 : w.cell? ⟨sb, 2, none⟩ = some (.int .i64 k) := hS.p.cell (j := 2) rfl
  have S_f := hS.p.free 2
  have hkI : (k : Int) ≤ 10000 := by omega
  have hS1 := hS.tick (k + 1) ((k : Int) + 1) (by omega)
  have hbel : Below sb w (w.setCell ⟨sb, 2, none⟩ (.int .i64 ((k : Int) + 1))) := (Below.refl _ _).setCell (by simp) _
  have hD0 : DnW w (w.setCell ⟨sb, 2, none⟩ (.int .i64 ((k : Int) + 1))) sb aa ac a ba bc b l r (k + 1) la lc ra rc := ⟨hbel, by have := hS.p.lt; simp; omega, hA.below hbel hAs, hB.below hbel hBs, hT.below hbel hG (by have := hS.p.lt; simp; omega), hS1⟩
  have H_hus := Box.mk hus
  have H_husl := Box.mk husl
  have H_husi := Box.mk husi
  have H_huso := Box.mk huso
  have H_husr := Box.mk husr
  have H_hvs := Box.mk hvs
  have H_hvsl := Box.mk hvsl
  have H_hvsi := Box.mk hvsi
  have H_hvso := Box.mk hvso
  have H_hvsr := Box.mk hvsr
  have H_hra := Box.mk hra
  have H_hrb := Box.mk hrb
  have H_hA := Box.mk hA
  have H_hB := Box.mk hB
  have H_hAs := Box.mk hAs
  have H_hBs := Box.mk hBs
  have H_hT := Box.mk hT
  have H_hG := Box.mk hG
  have H_hS := Box.mk hS
  have H_hbb := Box.mk hbb
  have H_heq := Box.mk heq
  have H_ha := Box.mk ha
  have H_hb := Box.mk hb
  have H_hS1 := Box.mk hS1
  clear hus husl husi huso husr hvs hvsl hvsi hvso hvsr hra hrb hA hB hAs hBs hT hG hS hbb heq ha hb hS1
  clear hbel
  go_enter Tryd.func41, Tryd.ntmps41
  have hb0 := Below.refl w.heap.size w
  go_upto_region 2 with fail
  refine wp_gen fun w1 hc1 => ?_
  have hD1 := hD0.later hc1
  clear hc1 hD0 S_2 S_f
  go_wp2_with fail
  with_reducible refine (H_hra.out _ hD1.A hD1.T).mono ?_
  rintro e w2 ⟨rfl, hc2⟩
  have hD2 := hD1.later hc2
  clear hc2 hD1
  have hN := Blk.new w2 w2.heap.size (List.replicate 32 (Value.int .u8 0)) 24 rfl
  go_upto_region 3 with (refine wpList_store_blk rfl 24 _ _ rfl w2.heap.size (by rfl) 24 _ us (by rfl) hN H_husr.out H_husi.out H_huso.out ?_; intro w3 hX he; have HW := Box.mk he; clear he)
  have hc3 : Below w2.heap.size w2 w3 := HW.out ▸ below_setCells (Nat.le_refl _) _ _ _ ((Below.refl _ _).alloc (Nat.le_refl _) _)
  have hD3 := hD2.later hc3
  clear hc3 hD2 hN HW
  go_wp2_with fail
  with_reducible refine (H_hrb.out _ hD3.B hD3.T).mono ?_
  rintro e w4 ⟨rfl, hc4⟩
  have hD4 := hD3.later hc4
  have hX4 := hX.later hc4
  clear hc4 hD3 hX
  have hN := Blk.new w4 w4.heap.size (List.replicate 32 (Value.int .u8 0)) 24 rfl
  go_upto_region 6 with (refine wpList_store_blk rfl 24 _ _ rfl w4.heap.size (by rfl) 24 _ vs (by rfl) hN H_hvsr.out H_hvsi.out H_hvso.out ?_; intro w5 hY he; have HW := Box.mk he; clear he)
  have hc5 : Below w4.heap.size w4 w5 := HW.out ▸ below_setCells (Nat.le_refl _) _ _ _ ((Below.refl _ _).alloc (Nat.le_refl _) _)
  have hD5 := hD4.later hc5
  have hX5 := hX4.later hc5
  clear hc5 hD4 hX4 hN HW
  obtain rfl : bb = false := by rw [← H_hbb.out]; simpa using hrr
  have hD6p := hD5
  rcases (show a.length < 2 ∨ (2 ≤ a.length ∧ b.length < 2) by omega) with h2a | ⟨h2a, h2b⟩
  · have h2I : (a.length : Int) < 2 := by omega
    go_upto_region 9 with (first | (refine wpList_load_blkG (by rfl) 24 _ rfl w2.heap.size (by rfl) 24 us _ hX5 Tryd.underlying24 rfl H_husi.out ?_) | (refine wpList_load_blkG (by rfl) 24 _ rfl w4.heap.size (by rfl) 24 vs _ hY Tryd.underlying24 rfl H_hvsi.out ?_))
    clear hX5 hY hD5
    refine wp_gen fun w6 hcG => ?_
    have hD6 := hD6p.later hcG
    clear hcG hD6p
    obtain ⟨zl0, hzl0⟩ : ∃ z, z = lackP a b := ⟨_, rfl⟩
    have hzle0 := hzl0 ▸ lack_len a b
    have hzi0 : (idsC zl0).length = zl0.length * 32 := idsC_len (l := zl0) fun q hq => by rw [hzl0] at hq; exact hD6.A.ids q (List.mem_filter.1 hq).1
    obtain ⟨nx0, hnx0⟩ : ∃ nx, nx = l.length + zl0.length := ⟨_, rfl⟩
    obtain ⟨L0, hL0⟩ : ∃ L, L = l ++ zl0 := ⟨_, rfl⟩
    have hlt0 : ∀ q, (Value.slice la l.length lc).ownBlock = some q → q < w6.heap.size := fun q e => (hD6.S.a.lt q e).2
    obtain ⟨C0, hCd0⟩ : ∃ C : World → Prop, ∀ v, C v ↔ SeaC w6 sb l r (k + 1) la lc ra rc v := ⟨_, fun _ => Iff.rfl⟩
    have hC0 : SeaC w6 sb l r (k + 1) la lc ra rc w6 := ⟨Below.refl _ _, Nat.le_refl _, hD6.S⟩
    refine Rel.wp_region_rel_tail C0 [(8, fun u v => u.grownBy v (Value.slice la l.length lc).ownBlock)] [(2, [], fun _ => VIs (.pointer (some ⟨sb, 0, none⟩))), (7, [], fun _ => VFar w6.heap.size zl0.length (idsC zl0)), (8, [], fun _ => VRowE (sb + 1) 24 32 nx0 (idsC l ++ idsC zl0) (Value.slice la l.length lc).ownBlock w6.heap.size), (9, [], fun _ => VIs (.pointer (some ⟨sb, 0, none⟩)))] [(2, []), (7, []), (8, []), (9, [])] 11 (by kernel_rfl) (by kernel_rfl) rfl (by kernel_rfl) ⟨⟨fun _ => VIs.last, ⟨fun _ _ _ _ _ h _ => h, trivial⟩⟩, ⟨fun _ => VFar.last, ⟨fun _ _ => VFar.grown hlt0, trivial⟩⟩, ⟨fun _ => VRowE.last, ⟨fun h => absurd rfl h, trivial⟩⟩, ⟨fun _ => VIs.last, ⟨fun _ _ _ _ _ h _ => h, trivial⟩⟩, trivial⟩ ((hCd0 _).2 (hC0.later hD6.size (Below.drew (Below.refl _ _)))) ?_
    simp only [List.take_succ_cons, List.take_zero, List.drop_succ_cons, List.drop_zero]
    have hp0 : ∀ p : Rel.WIn C0, (Rel.wOf p).cell? ⟨sb, 0, none⟩ = some (.slice la l.length lc) := fun p => ((hCd0 _).1 (Rel.wOf_in p)).s.p.cell (j := 0) rfl
    haveI hinh0 : Nonempty (Rel.WIn C0) := ⟨⟨w6, (hCd0 _).2 hC0⟩⟩
    have H_hC0 := Box.mk hC0
    have H_hCd0 := Box.mk hCd0
    have H_hzl0 := Box.mk hzl0
    have H_hzle0 := Box.mk hzle0
    have H_hzi0 := Box.mk hzi0
    have H_hnx0 := Box.mk hnx0
    have H_hlt0 := Box.mk hlt0
    have H_hL0 := Box.mk hL0
    clear hC0 hCd0 hzl0 hzle0 hzi0 hnx0 hlt0 hL0
    refine Rel.wpSpec_quiet 2 (by kernel_rfl) (by kernel_rfl) ?_
    simp only [List.take_succ_cons, List.take_zero, List.drop_succ_cons, List.drop_zero]
    repeat (go_big_quiet_step (fail))
    refine wpQuiet_nil ?_
    show Rel.wpSpec _ _ _ _ _ _ _ _ _ _ _
    refine Rel.wpSpec_atR [] (VIs (.pointer (some ⟨sb, 0, none⟩))) Rel.LateR rfl (by first | rfl | (simp [viewS, Act.eval]; done)) rfl (by first | rfl | (simp [Region.wanted]; done)) ?_ rfl ?_
    · intro wq hq0 hfq
      clear hfq
      unfold Oper.gives
      go_simp
      exact ⟨hq0, Below.refl _ _, rfl⟩
    rintro x2 ⟨_, ⟨_, rfl⟩⟩
    simp only [Act.put, List.setIfInBounds_toArray, List.set_cons_succ, List.set_cons_zero]
    refine Rel.wpSpec_quiet 4 (by kernel_rfl) (by kernel_rfl) ?_
    simp only [List.take_succ_cons, List.take_zero, List.drop_succ_cons, List.drop_zero]
    repeat (go_big_quiet_step (fail))
    refine wpQuiet_nil ?_
    show Rel.wpSpec _ _ _ _ _ _ _ _ _ _ _
    refine Rel.wpSpec_atR [] (VFar w6.heap.size zl0.length (idsC zl0)) Rel.LateR rfl (by first | rfl | (simp [viewS, Act.eval]; done)) rfl (by first | rfl | (simp [Region.wanted]; done)) ?_ rfl ?_
    · intro wq hq0 hfq
      clear hfq
      have hq := (H_hCd0.out _).1 hq0
      refine gives_call 53 _ _ #[.slice aa a.length ac, .slice ba b.length bc] rfl (by kernel_rfl) (by simp [Act.eval]) ((without_any a b aa ba _ ac _ bc wq (hD6.A.below hq.bel fun x e => by have := H_hAs.out x e; omega) (hD6.B.below hq.bel fun x e => by have := H_hBs.out x e; omega) rfl rfl (by omega) (by omega)).mono ?_)
      rintro e w' ⟨⟨a', c', rfl, o'⟩, hb'⟩
      refine ⟨_, rfl, (H_hCd0.out _).2 (hq.later hD6.size hb'), hb', a', c', by rw [H_hzl0.out], by rw [H_hzl0.out]; exact o'.cellsAt, fun ad e => Nat.le_trans hq.size (o'.addr ad e).1⟩
    rintro x7 ⟨_, ⟨a7, c7, rfl, -⟩⟩
    simp only [Act.put, List.setIfInBounds_toArray, List.set_cons_succ, List.set_cons_zero]
    refine Rel.wpSpec_atR [] (VRowE (sb + 1) 24 32 nx0 (idsC l ++ idsC zl0) (Value.slice la l.length lc).ownBlock w6.heap.size) (fun u v => u.grownBy v (Value.slice la l.length lc).ownBlock) rfl (by first | rfl | (simp [viewS, Act.eval]; done)) rfl (by first | rfl | (simp [Region.wanted]; done)) ?_ rfl ?_
    · intro wq hq0 hfq
      have f7 := hfq 7 (by kernel_rfl)
      simp only [upd, Nat.beq, cond] at f7
      clear hfq
      obtain ⟨a7', c7', e7, k7, l7⟩ := f7
      cases e7
      have hq := (H_hCd0.out _).1 hq0
      have hzb := H_hzle0.out
      obtain ⟨a', c', w', hr, h2, h3, h4, h5⟩ := run_append_y (P := Tryd.prog) wq (sb + 1) 22 22 24 j0 _ 32 32 Tryd.underlying22 H_jif.out H_jz0.out H_jz1.out H_jz2.out oneCell_idz (by decide) (.slice la l.length lc) l.length _ hq.s.a a7 zl0.length c7 (idsC zl0) H_hzi0.out k7 (idsC_one _) (by unfold maxLen; omega) (by omega) (Nat.le_trans hD6.size hq.size)
      rw [← H_hnx0.out] at hr h2 h4
      exact gives_append _ _ _ _ rfl _ _ rfl rfl ⟨_, _, hr, (H_hCd0.out _).2 (hq.appA hD6.size h3 h5), h3, _, _, rfl, h2, fun q hk => (h4 q hk).imp (fun e => e) fun e => by rw [e]; exact hq.size⟩
    rintro x8 ⟨_, ⟨a8, c8, rfl, -⟩⟩
    simp only [Act.put, List.setIfInBounds_toArray, List.set_cons_succ, List.set_cons_zero]
    refine Rel.wpSpec_atR [] (VIs (.pointer (some ⟨sb, 0, none⟩))) Rel.LateR rfl (by first | rfl | (simp [viewS, Act.eval]; done)) rfl (by first | rfl | (simp [Region.wanted]; done)) ?_ rfl ?_
    · intro wq hq0 hfq
      clear hfq
      unfold Oper.gives
      go_simp
      exact ⟨hq0, Below.refl _ _, rfl⟩
    rintro x9 ⟨_, ⟨_, rfl⟩⟩
    simp only [Act.put, List.setIfInBounds_toArray, List.set_cons_succ, List.set_cons_zero]
    refine Rel.wpSpec_quiet 1 (by kernel_rfl) (by kernel_rfl) ?_
    simp only [List.take_succ_cons, List.take_zero, List.drop_succ_cons, List.drop_zero]
    repeat (go_big_quiet_step (fail))
    refine wpQuiet_nil ?_
    show Rel.wpSpec _ _ _ _ _ _ _ _ _ _ _
    intro w7 hqn hfq
    have f8 := hfq 8
    simp only [upd, Nat.beq, cond] at f8
    clear hfq hp0
    obtain ⟨a8', c8', e8, o8, l8⟩ := f8
    cases e8
    have hq := (H_hCd0.out _).1 hqn
    have hn8 : nx0 = L0.length := by rw [H_hL0.out, H_hnx0.out, List.length_append]
    rw [hn8, ← idsC_append, ← H_hL0.out] at o8
    rw [hn8] at l8 ⊢
    have P_0 := hq.s.p.cell (j := 0) (v := (.slice la l.length lc)) rfl
    have P_f := hq.s.p.free 0
    have hSw7 := hq.s.putA o8 l8 (fun q e => (hD6.S.b.lt q e).2)
    have hbw7 : Below sb w6 (w7.setCell ⟨sb, 0, none⟩ (.slice a8 L0.length c8)) := (hq.bel.mono (by omega)).setCell (by simp) _
    have hD8p := hD6.put hbw7 (by have := hq.size; have := hD6.size; simp; omega) H_hAs.out H_hBs.out H_hG.out hSw7
    clear hqn hSw7 hbw7 o8 l8 hq
    go_upto_region 10 with fail
    clear P_0 P_f
    refine wp_gen fun w8 hcG => ?_
    have hD8 := hD8p.later hcG
    clear hcG hD8p
    obtain ⟨zl1, hzl1⟩ : ∃ z, z = lackP b a := ⟨_, rfl⟩
    have hzle1 := hzl1 ▸ lack_len b a
    have hzi1 : (idsC zl1).length = zl1.length * 32 := idsC_len (l := zl1) fun q hq => by rw [hzl1] at hq; exact hD8.B.ids q (List.mem_filter.1 hq).1
    obtain ⟨nx1, hnx1⟩ : ∃ nx, nx = r.length + zl1.length := ⟨_, rfl⟩
    obtain ⟨L1, hL1⟩ : ∃ L, L = r ++ zl1 := ⟨_, rfl⟩
    have hlt1 : ∀ q, (Value.slice ra r.length rc).ownBlock = some q → q < w8.heap.size := fun q e => (hD8.S.b.lt q e).2
    obtain ⟨C1, hCd1⟩ : ∃ C : World → Prop, ∀ v, C v ↔ SeaC w8 sb L0 r (k + 1) a8 c8 ra rc v := ⟨_, fun _ => Iff.rfl⟩
    have hC0 : SeaC w8 sb L0 r (k + 1) a8 c8 ra rc w8 := ⟨Below.refl _ _, Nat.le_refl _, hD8.S⟩
    refine Rel.wp_region_rel_tail C1 [(8, fun u v => u.grownBy v (Value.slice ra r.length rc).ownBlock)] [(2, [], fun _ => VIs (.pointer (some ⟨sb, 0, none⟩))), (7, [], fun _ => VFar w8.heap.size zl1.length (idsC zl1)), (8, [], fun _ => VRowE (sb + 1) 24 32 nx1 (idsC r ++ idsC zl1) (Value.slice ra r.length rc).ownBlock w8.heap.size), (9, [], fun _ => VIs (.pointer (some ⟨sb, 0, none⟩)))] [(2, []), (7, []), (8, []), (9, [])] 11 (by kernel_rfl) (by kernel_rfl) rfl (by kernel_rfl) ⟨⟨fun _ => VIs.last, ⟨fun _ _ _ _ _ h _ => h, trivial⟩⟩, ⟨fun _ => VFar.last, ⟨fun _ _ => VFar.grown hlt1, trivial⟩⟩, ⟨fun _ => VRowE.last, ⟨fun h => absurd rfl h, trivial⟩⟩, ⟨fun _ => VIs.last, ⟨fun _ _ _ _ _ h _ => h, trivial⟩⟩, trivial⟩ ((hCd1 _).2 (hC0.later hD8.size (Below.drew (Below.refl _ _)))) ?_
    simp only [List.take_succ_cons, List.take_zero, List.drop_succ_cons, List.drop_zero]
    have hp0 : ∀ p : Rel.WIn C1, (Rel.wOf p).cell? ⟨sb, 1, none⟩ = some (.slice ra r.length rc) := fun p => ((hCd1 _).1 (Rel.wOf_in p)).s.p.cell (j := 1) rfl
    haveI hinh1 : Nonempty (Rel.WIn C1) := ⟨⟨w8, (hCd1 _).2 hC0⟩⟩
    have H_hC0 := Box.mk hC0
    have H_hCd1 := Box.mk hCd1
    have H_hzl1 := Box.mk hzl1
    have H_hzle1 := Box.mk hzle1
    have H_hzi1 := Box.mk hzi1
    have H_hnx1 := Box.mk hnx1
    have H_hlt1 := Box.mk hlt1
    have H_hL1 := Box.mk hL1
    clear hC0 hCd1 hzl1 hzle1 hzi1 hnx1 hlt1 hL1
    refine Rel.wpSpec_quiet 2 (by kernel_rfl) (by kernel_rfl) ?_
    simp only [List.take_succ_cons, List.take_zero, List.drop_succ_cons, List.drop_zero]
    repeat (go_big_quiet_step (fail))
    refine wpQuiet_nil ?_
    show Rel.wpSpec _ _ _ _ _ _ _ _ _ _ _
    refine Rel.wpSpec_atR [] (VIs (.pointer (some ⟨sb, 0, none⟩))) Rel.LateR rfl (by first | rfl | (simp [viewS, Act.eval]; done)) rfl (by first | rfl | (simp [Region.wanted]; done)) ?_ rfl ?_
    · intro wq hq0 hfq
      clear hfq
      unfold Oper.gives
      go_simp
      exact ⟨hq0, Below.refl _ _, rfl⟩
    rintro x2 ⟨_, ⟨_, rfl⟩⟩
    simp only [Act.put, List.setIfInBounds_toArray, List.set_cons_succ, List.set_cons_zero]
    refine Rel.wpSpec_quiet 4 (by kernel_rfl) (by kernel_rfl) ?_
    simp only [List.take_succ_cons, List.take_zero, List.drop_succ_cons, List.drop_zero]
    repeat (go_big_quiet_step (fail))
    refine wpQuiet_nil ?_
    show Rel.wpSpec _ _ _ _ _ _ _ _ _ _ _
    refine Rel.wpSpec_atR [] (VFar w8.heap.size zl1.length (idsC zl1)) Rel.LateR rfl (by first | rfl | (simp [viewS, Act.eval]; done)) rfl (by first | rfl | (simp [Region.wanted]; done)) ?_ rfl ?_
    · intro wq hq0 hfq
      clear hfq
      have hq := (H_hCd1.out _).1 hq0
      refine gives_call 53 _ _ #[.slice ba b.length bc, .slice aa a.length ac] rfl (by kernel_rfl) (by simp [Act.eval]) ((without_any b a ba aa _ bc _ ac wq (hD8.B.below hq.bel fun x e => by have := H_hBs.out x e; omega) (hD8.A.below hq.bel fun x e => by have := H_hAs.out x e; omega) rfl rfl (by omega) (by omega)).mono ?_)
      rintro e w' ⟨⟨a', c', rfl, o'⟩, hb'⟩
      refine ⟨_, rfl, (H_hCd1.out _).2 (hq.later hD8.size hb'), hb', a', c', by rw [H_hzl1.out], by rw [H_hzl1.out]; exact o'.cellsAt, fun ad e => Nat.le_trans hq.size (o'.addr ad e).1⟩
    rintro x7 ⟨_, ⟨a7, c7, rfl, -⟩⟩
    simp only [Act.put, List.setIfInBounds_toArray, List.set_cons_succ, List.set_cons_zero]
    refine Rel.wpSpec_atR [] (VRowE (sb + 1) 24 32 nx1 (idsC r ++ idsC zl1) (Value.slice ra r.length rc).ownBlock w8.heap.size) (fun u v => u.grownBy v (Value.slice ra r.length rc).ownBlock) rfl (by first | rfl | (simp [viewS, Act.eval]; done)) rfl (by first | rfl | (simp [Region.wanted]; done)) ?_ rfl ?_
    · intro wq hq0 hfq
      have f7 := hfq 7 (by kernel_rfl)
      simp only [upd, Nat.beq, cond] at f7
      clear hfq
      obtain ⟨a7', c7', e7, k7, l7⟩ := f7
      cases e7
      have hq := (H_hCd1.out _).1 hq0
      have hzb := H_hzle1.out
      obtain ⟨a', c', w', hr, h2, h3, h4, h5⟩ := run_append_y (P := Tryd.prog) wq (sb + 1) 22 22 24 j0 _ 32 32 Tryd.underlying22 H_jif.out H_jz0.out H_jz1.out H_jz2.out oneCell_idz (by decide) (.slice ra r.length rc) r.length _ hq.s.b a7 zl1.length c7 (idsC zl1) H_hzi1.out k7 (idsC_one _) (by unfold maxLen; omega) (by omega) (Nat.le_trans hD8.size hq.size)
      rw [← H_hnx1.out] at hr h2 h4
      exact gives_append _ _ _ _ rfl _ _ rfl rfl ⟨_, _, hr, (H_hCd1.out _).2 (hq.appB hD8.size h3 h5), h3, _, _, rfl, h2, fun q hk => (h4 q hk).imp (fun e => e) fun e => by rw [e]; exact hq.size⟩
    rintro x8 ⟨_, ⟨a8, c8, rfl, -⟩⟩
    simp only [Act.put, List.setIfInBounds_toArray, List.set_cons_succ, List.set_cons_zero]
    refine Rel.wpSpec_atR [] (VIs (.pointer (some ⟨sb, 0, none⟩))) Rel.LateR rfl (by first | rfl | (simp [viewS, Act.eval]; done)) rfl (by first | rfl | (simp [Region.wanted]; done)) ?_ rfl ?_
    · intro wq hq0 hfq
      clear hfq
      unfold Oper.gives
      go_simp
      exact ⟨hq0, Below.refl _ _, rfl⟩
    rintro x9 ⟨_, ⟨_, rfl⟩⟩
    simp only [Act.put, List.setIfInBounds_toArray, List.set_cons_succ, List.set_cons_zero]
    refine Rel.wpSpec_quiet 1 (by kernel_rfl) (by kernel_rfl) ?_
    simp only [List.take_succ_cons, List.take_zero, List.drop_succ_cons, List.drop_zero]
    repeat (go_big_quiet_step (fail))
    refine wpQuiet_nil ?_
    show Rel.wpSpec _ _ _ _ _ _ _ _ _ _ _
    intro w9 hqn hfq
    have f8 := hfq 8
    simp only [upd, Nat.beq, cond] at f8
    clear hfq hp0
    obtain ⟨a8', c8', e8, o8, l8⟩ := f8
    cases e8
    have hq := (H_hCd1.out _).1 hqn
    have hn8 : nx1 = L1.length := by rw [H_hL1.out, H_hnx1.out, List.length_append]
    rw [hn8, ← idsC_append, ← H_hL1.out] at o8
    rw [hn8] at l8 ⊢
    have P_0 := hq.s.p.cell (j := 1) (v := (.slice ra r.length rc)) rfl
    have P_f := hq.s.p.free 1
    have hSw9 := hq.s.putB o8 l8 (fun q e => (hD8.S.a.lt q e).2)
    have hbw9 : Below sb w8 (w9.setCell ⟨sb, 1, none⟩ (.slice a8 L1.length c8)) := (hq.bel.mono (by omega)).setCell (by simp) _
    have hD10 := hD8.put hbw9 (by have := hq.size; have := hD8.size; simp; omega) H_hAs.out H_hBs.out H_hG.out hSw9
    clear hqn hSw9 hbw9 o8 l8 hq
    go_wp2_with fail
    go_ret
    refine ⟨rfl, hD10.bel, ?_⟩
    show ∃ la' lc' ra' rc', SeaW _ sb (l ++ lackP a b) (r ++ lackP b a) (k + 1) la' lc' ra' rc'
    rw [← H_hzl0.out, ← H_hL0.out, ← H_hzl1.out, ← H_hL1.out]
    exact ⟨_, _, _, _, hD10.S⟩
  · have h2I : (2 : Int) ≤ (a.length : Int) := by omega
    have h2J : (b.length : Int) < 2 := by omega
    go_upto_region 9 with (first | (refine wpList_load_blkG (by rfl) 24 _ rfl w2.heap.size (by rfl) 24 us _ hX5 Tryd.underlying24 rfl H_husi.out ?_) | (refine wpList_load_blkG (by rfl) 24 _ rfl w4.heap.size (by rfl) 24 vs _ hY Tryd.underlying24 rfl H_hvsi.out ?_))
    clear hX5 hY hD5
    refine wp_gen fun w6 hcG => ?_
    have hD6 := hD6p.later hcG
    clear hcG hD6p
    obtain ⟨zl0, hzl0⟩ : ∃ z, z = lackP a b := ⟨_, rfl⟩
    have hzle0 := hzl0 ▸ lack_len a b
    have hzi0 : (idsC zl0).length = zl0.length * 32 := idsC_len (l := zl0) fun q hq => by rw [hzl0] at hq; exact hD6.A.ids q (List.mem_filter.1 hq).1
    obtain ⟨nx0, hnx0⟩ : ∃ nx, nx = l.length + zl0.length := ⟨_, rfl⟩
    obtain ⟨L0, hL0⟩ : ∃ L, L = l ++ zl0 := ⟨_, rfl⟩
    have hlt0 : ∀ q, (Value.slice la l.length lc).ownBlock = some q → q < w6.heap.size := fun q e => (hD6.S.a.lt q e).2
    obtain ⟨C0, hCd0⟩ : ∃ C : World → Prop, ∀ v, C v ↔ SeaC w6 sb l r (k + 1) la lc ra rc v := ⟨_, fun _ => Iff.rfl⟩
    have hC0 : SeaC w6 sb l r (k + 1) la lc ra rc w6 := ⟨Below.refl _ _, Nat.le_refl _, hD6.S⟩
    refine Rel.wp_region_rel_tail C0 [(8, fun u v => u.grownBy v (Value.slice la l.length lc).ownBlock)] [(2, [], fun _ => VIs (.pointer (some ⟨sb, 0, none⟩))), (7, [], fun _ => VFar w6.heap.size zl0.length (idsC zl0)), (8, [], fun _ => VRowE (sb + 1) 24 32 nx0 (idsC l ++ idsC zl0) (Value.slice la l.length lc).ownBlock w6.heap.size), (9, [], fun _ => VIs (.pointer (some ⟨sb, 0, none⟩)))] [(2, []), (7, []), (8, []), (9, [])] 11 (by kernel_rfl) (by kernel_rfl) rfl (by kernel_rfl) ⟨⟨fun _ => VIs.last, ⟨fun _ _ _ _ _ h _ => h, trivial⟩⟩, ⟨fun _ => VFar.last, ⟨fun _ _ => VFar.grown hlt0, trivial⟩⟩, ⟨fun _ => VRowE.last, ⟨fun h => absurd rfl h, trivial⟩⟩, ⟨fun _ => VIs.last, ⟨fun _ _ _ _ _ h _ => h, trivial⟩⟩, trivial⟩ ((hCd0 _).2 (hC0.later hD6.size (Below.drew (Below.refl _ _)))) ?_
    simp only [List.take_succ_cons, List.take_zero, List.drop_succ_cons, List.drop_zero]
    have hp0 : ∀ p : Rel.WIn C0, (Rel.wOf p).cell? ⟨sb, 0, none⟩ = some (.slice la l.length lc) := fun p => ((hCd0 _).1 (Rel.wOf_in p)).s.p.cell (j := 0) rfl
    haveI hinh0 : Nonempty (Rel.WIn C0) := ⟨⟨w6, (hCd0 _).2 hC0⟩⟩
    have H_hC0 := Box.mk hC0
    have H_hCd0 := Box.mk hCd0
    have H_hzl0 := Box.mk hzl0
    have H_hzle0 := Box.mk hzle0
    have H_hzi0 := Box.mk hzi0
    have H_hnx0 := Box.mk hnx0
    have H_hlt0 := Box.mk hlt0
    have H_hL0 := Box.mk hL0
    clear hC0 hCd0 hzl0 hzle0 hzi0 hnx0 hlt0 hL0
    refine Rel.wpSpec_quiet 2 (by kernel_rfl) (by kernel_rfl) ?_
    simp only [List.take_succ_cons, List.take_zero, List.drop_succ_cons, List.drop_zero]
    repeat (go_big_quiet_step (fail))
    refine wpQuiet_nil ?_
    show Rel.wpSpec _ _ _ _ _ _ _ _ _ _ _
    refine Rel.wpSpec_atR [] (VIs (.pointer (some ⟨sb, 0, none⟩))) Rel.LateR rfl (by first | rfl | (simp [viewS, Act.eval]; done)) rfl (by first | rfl | (simp [Region.wanted]; done)) ?_ rfl ?_
    · intro wq hq0 hfq
      clear hfq
      unfold Oper.gives
      go_simp
      exact ⟨hq0, Below.refl _ _, rfl⟩
    rintro x2 ⟨_, ⟨_, rfl⟩⟩
    simp only [Act.put, List.setIfInBounds_toArray, List.set_cons_succ, List.set_cons_zero]
    refine Rel.wpSpec_quiet 4 (by kernel_rfl) (by kernel_rfl) ?_
    simp only [List.take_succ_cons, List.take_zero, List.drop_succ_cons, List.drop_zero]
    repeat (go_big_quiet_step (fail))
    refine wpQuiet_nil ?_
    show Rel.wpSpec _ _ _ _ _ _ _ _ _ _ _
    refine Rel.wpSpec_atR [] (VFar w6.heap.size zl0.length (idsC zl0)) Rel.LateR rfl (by first | rfl | (simp [viewS, Act.eval]; done)) rfl (by first | rfl | (simp [Region.wanted]; done)) ?_ rfl ?_
    · intro wq hq0 hfq
      clear hfq
      have hq := (H_hCd0.out _).1 hq0
      refine gives_call 53 _ _ #[.slice aa a.length ac, .slice ba b.length bc] rfl (by kernel_rfl) (by simp [Act.eval]) ((without_any a b aa ba _ ac _ bc wq (hD6.A.below hq.bel fun x e => by have := H_hAs.out x e; omega) (hD6.B.below hq.bel fun x e => by have := H_hBs.out x e; omega) rfl rfl (by omega) (by omega)).mono ?_)
      rintro e w' ⟨⟨a', c', rfl, o'⟩, hb'⟩
      refine ⟨_, rfl, (H_hCd0.out _).2 (hq.later hD6.size hb'), hb', a', c', by rw [H_hzl0.out], by rw [H_hzl0.out]; exact o'.cellsAt, fun ad e => Nat.le_trans hq.size (o'.addr ad e).1⟩
    rintro x7 ⟨_, ⟨a7, c7, rfl, -⟩⟩
    simp only [Act.put, List.setIfInBounds_toArray, List.set_cons_succ, List.set_cons_zero]
    refine Rel.wpSpec_atR [] (VRowE (sb + 1) 24 32 nx0 (idsC l ++ idsC zl0) (Value.slice la l.length lc).ownBlock w6.heap.size) (fun u v => u.grownBy v (Value.slice la l.length lc).ownBlock) rfl (by first | rfl | (simp [viewS, Act.eval]; done)) rfl (by first | rfl | (simp [Region.wanted]; done)) ?_ rfl ?_
    · intro wq hq0 hfq
      have f7 := hfq 7 (by kernel_rfl)
      simp only [upd, Nat.beq, cond] at f7
      clear hfq
      obtain ⟨a7', c7', e7, k7, l7⟩ := f7
      cases e7
      have hq := (H_hCd0.out _).1 hq0
      have hzb := H_hzle0.out
      obtain ⟨a', c', w', hr, h2, h3, h4, h5⟩ := run_append_y (P := Tryd.prog) wq (sb + 1) 22 22 24 j0 _ 32 32 Tryd.underlying22 H_jif.out H_jz0.out H_jz1.out H_jz2.out oneCell_idz (by decide) (.slice la l.length lc) l.length _ hq.s.a a7 zl0.length c7 (idsC zl0) H_hzi0.out k7 (idsC_one _) (by unfold maxLen; omega) (by omega) (Nat.le_trans hD6.size hq.size)
      rw [← H_hnx0.out] at hr h2 h4
      exact gives_append _ _ _ _ rfl _ _ rfl rfl ⟨_, _, hr, (H_hCd0.out _).2 (hq.appA hD6.size h3 h5), h3, _, _, rfl, h2, fun q hk => (h4 q hk).imp (fun e => e) fun e => by rw [e]; exact hq.size⟩
    rintro x8 ⟨_, ⟨a8, c8, rfl, -⟩⟩
    simp only [Act.put, List.setIfInBounds_toArray, List.set_cons_succ, List.set_cons_zero]
    refine Rel.wpSpec_atR [] (VIs (.pointer (some ⟨sb, 0, none⟩))) Rel.LateR rfl (by first | rfl | (simp [viewS, Act.eval]; done)) rfl (by first | rfl | (simp [Region.wanted]; done)) ?_ rfl ?_
    · intro wq hq0 hfq
      clear hfq
      unfold Oper.gives
      go_simp
      exact ⟨hq0, Below.refl _ _, rfl⟩
    rintro x9 ⟨_, ⟨_, rfl⟩⟩
    simp only [Act.put, List.setIfInBounds_toArray, List.set_cons_succ, List.set_cons_zero]
    refine Rel.wpSpec_quiet 1 (by kernel_rfl) (by kernel_rfl) ?_
    simp only [List.take_succ_cons, List.take_zero, List.drop_succ_cons, List.drop_zero]
    repeat (go_big_quiet_step (fail))
    refine wpQuiet_nil ?_
    show Rel.wpSpec _ _ _ _ _ _ _ _ _ _ _
    intro w7 hqn hfq
    have f8 := hfq 8
    simp only [upd, Nat.beq, cond] at f8
    clear hfq hp0
    obtain ⟨a8', c8', e8, o8, l8⟩ := f8
    cases e8
    have hq := (H_hCd0.out _).1 hqn
    have hn8 : nx0 = L0.length := by rw [H_hL0.out, H_hnx0.out, List.length_append]
    rw [hn8, ← idsC_append, ← H_hL0.out] at o8
    rw [hn8] at l8 ⊢
    have P_0 := hq.s.p.cell (j := 0) (v := (.slice la l.length lc)) rfl
    have P_f := hq.s.p.free 0
    have hSw7 := hq.s.putA o8 l8 (fun q e => (hD6.S.b.lt q e).2)
    have hbw7 : Below sb w6 (w7.setCell ⟨sb, 0, none⟩ (.slice a8 L0.length c8)) := (hq.bel.mono (by omega)).setCell (by simp) _
    have hD8p := hD6.put hbw7 (by have := hq.size; have := hD6.size; simp; omega) H_hAs.out H_hBs.out H_hG.out hSw7
    clear hqn hSw7 hbw7 o8 l8 hq
    go_upto_region 10 with fail
    clear P_0 P_f
    refine wp_gen fun w8 hcG => ?_
    have hD8 := hD8p.later hcG
    clear hcG hD8p
    obtain ⟨zl1, hzl1⟩ : ∃ z, z = lackP b a := ⟨_, rfl⟩
    have hzle1 := hzl1 ▸ lack_len b a
    have hzi1 : (idsC zl1).length = zl1.length * 32 := idsC_len (l := zl1) fun q hq => by rw [hzl1] at hq; exact hD8.B.ids q (List.mem_filter.1 hq).1
    obtain ⟨nx1, hnx1⟩ : ∃ nx, nx = r.length + zl1.length := ⟨_, rfl⟩
    obtain ⟨L1, hL1⟩ : ∃ L, L = r ++ zl1 := ⟨_, rfl⟩
    have hlt1 : ∀ q, (Value.slice ra r.length rc).ownBlock = some q → q < w8.heap.size := fun q e => (hD8.S.b.lt q e).2
    obtain ⟨C1, hCd1⟩ : ∃ C : World → Prop, ∀ v, C v ↔ SeaC w8 sb L0 r (k + 1) a8 c8 ra rc v := ⟨_, fun _ => Iff.rfl⟩
    have hC0 : SeaC w8 sb L0 r (k + 1) a8 c8 ra rc w8 := ⟨Below.refl _ _, Nat.le_refl _, hD8.S⟩
    refine Rel.wp_region_rel_tail C1 [(8, fun u v => u.grownBy v (Value.slice ra r.length rc).ownBlock)] [(2, [], fun _ => VIs (.pointer (some ⟨sb, 0, none⟩))), (7, [], fun _ => VFar w8.heap.size zl1.length (idsC zl1)), (8, [], fun _ => VRowE (sb + 1) 24 32 nx1 (idsC r ++ idsC zl1) (Value.slice ra r.length rc).ownBlock w8.heap.size), (9, [], fun _ => VIs (.pointer (some ⟨sb, 0, none⟩)))] [(2, []), (7, []), (8, []), (9, [])] 11 (by kernel_rfl) (by kernel_rfl) rfl (by kernel_rfl) ⟨⟨fun _ => VIs.last, ⟨fun _ _ _ _ _ h _ => h, trivial⟩⟩, ⟨fun _ => VFar.last, ⟨fun _ _ => VFar.grown hlt1, trivial⟩⟩, ⟨fun _ => VRowE.last, ⟨fun h => absurd rfl h, trivial⟩⟩, ⟨fun _ => VIs.last, ⟨fun _ _ _ _ _ h _ => h, trivial⟩⟩, trivial⟩ ((hCd1 _).2 (hC0.later hD8.size (Below.drew (Below.refl _ _)))) ?_
    simp only [List.take_succ_cons, List.take_zero, List.drop_succ_cons, List.drop_zero]
    have hp0 : ∀ p : Rel.WIn C1, (Rel.wOf p).cell? ⟨sb, 1, none⟩ = some (.slice ra r.length rc) := fun p => ((hCd1 _).1 (Rel.wOf_in p)).s.p.cell (j := 1) rfl
    haveI hinh1 : Nonempty (Rel.WIn C1) := ⟨⟨w8, (hCd1 _).2 hC0⟩⟩
    have H_hC0 := Box.mk hC0
    have H_hCd1 := Box.mk hCd1
    have H_hzl1 := Box.mk hzl1
    have H_hzle1 := Box.mk hzle1
    have H_hzi1 := Box.mk hzi1
    have H_hnx1 := Box.mk hnx1
    have H_hlt1 := Box.mk hlt1
    have H_hL1 := Box.mk hL1
    clear hC0 hCd1 hzl1 hzle1 hzi1 hnx1 hlt1 hL1
    refine Rel.wpSpec_quiet 2 (by kernel_rfl) (by kernel_rfl) ?_
    simp only [List.take_succ_cons, List.take_zero, List.drop_succ_cons, List.drop_zero]
    repeat (go_big_quiet_step (fail))
    refine wpQuiet_nil ?_
    show Rel.wpSpec _ _ _ _ _ _ _ _ _ _ _
    refine Rel.wpSpec_atR [] (VIs (.pointer (some ⟨sb, 0, none⟩))) Rel.LateR rfl (by first | rfl | (simp [viewS, Act.eval]; done)) rfl (by first | rfl | (simp [Region.wanted]; done)) ?_ rfl ?_
    · intro wq hq0 hfq
      clear hfq
      unfold Oper.gives
      go_simp
      exact ⟨hq0, Below.refl _ _, rfl⟩
    rintro x2 ⟨_, ⟨_, rfl⟩⟩
    simp only [Act.put, List.setIfInBounds_toArray, List.set_cons_succ, List.set_cons_zero]
    refine Rel.wpSpec_quiet 4 (by kernel_rfl) (by kernel_rfl) ?_
    simp only [List.take_succ_cons, List.take_zero, List.drop_succ_cons, List.drop_zero]
    repeat (go_big_quiet_step (fail))
    refine wpQuiet_nil ?_
    show Rel.wpSpec _ _ _ _ _ _ _ _ _ _ _
    refine Rel.wpSpec_atR [] (VFar w8.heap.size zl1.length (idsC zl1)) Rel.LateR rfl (by first | rfl | (simp [viewS, Act.eval]; done)) rfl (by first | rfl | (simp [Region.wanted]; done)) ?_ rfl ?_
    · intro wq hq0 hfq
      clear hfq
      have hq := (H_hCd1.out _).1 hq0
      refine gives_call 53 _ _ #[.slice ba b.length bc, .slice aa a.length ac] rfl (by kernel_rfl) (by simp [Act.eval]) ((without_any b a ba aa _ bc _ ac wq (hD8.B.below hq.bel fun x e => by have := H_hBs.out x e; omega) (hD8.A.below hq.bel fun x e => by have := H_hAs.out x e; omega) rfl rfl (by omega) (by omega)).mono ?_)
      rintro e w' ⟨⟨a', c', rfl, o'⟩, hb'⟩
      refine ⟨_, rfl, (H_hCd1.out _).2 (hq.later hD8.size hb'), hb', a', c', by rw [H_hzl1.out], by rw [H_hzl1.out]; exact o'.cellsAt, fun ad e => Nat.le_trans hq.size (o'.addr ad e).1⟩
    rintro x7 ⟨_, ⟨a7, c7, rfl, -⟩⟩
    simp only [Act.put, List.setIfInBounds_toArray, List.set_cons_succ, List.set_cons_zero]
    refine Rel.wpSpec_atR [] (VRowE (sb + 1) 24 32 nx1 (idsC r ++ idsC zl1) (Value.slice ra r.length rc).ownBlock w8.heap.size) (fun u v => u.grownBy v (Value.slice ra r.length rc).ownBlock) rfl (by first | rfl | (simp [viewS, Act.eval]; done)) rfl (by first | rfl | (simp [Region.wanted]; done)) ?_ rfl ?_
    · intro wq hq0 hfq
      have f7 := hfq 7 (by kernel_rfl)
      simp only [upd, Nat.beq, cond] at f7
      clear hfq
      obtain ⟨a7', c7', e7, k7, l7⟩ := f7
      cases e7
      have hq := (H_hCd1.out _).1 hq0
      have hzb := H_hzle1.out
      obtain ⟨a', c', w', hr, h2, h3, h4, h5⟩ := run_append_y (P := Tryd.prog) wq (sb + 1) 22 22 24 j0 _ 32 32 Tryd.underlying22 H_jif.out H_jz0.out H_jz1.out H_jz2.out oneCell_idz (by decide) (.slice ra r.length rc) r.length _ hq.s.b a7 zl1.length c7 (idsC zl1) H_hzi1.out k7 (idsC_one _) (by unfold maxLen; omega) (by omega) (Nat.le_trans hD8.size hq.size)
      rw [← H_hnx1.out] at hr h2 h4
      exact gives_append _ _ _ _ rfl _ _ rfl rfl ⟨_, _, hr, (H_hCd1.out _).2 (hq.appB hD8.size h3 h5), h3, _, _, rfl, h2, fun q hk => (h4 q hk).imp (fun e => e) fun e => by rw [e]; exact hq.size⟩
    rintro x8 ⟨_, ⟨a8, c8, rfl, -⟩⟩
    simp only [Act.put, List.setIfInBounds_toArray, List.set_cons_succ, List.set_cons_zero]
    refine Rel.wpSpec_atR [] (VIs (.pointer (some ⟨sb, 0, none⟩))) Rel.LateR rfl (by first | rfl | (simp [viewS, Act.eval]; done)) rfl (by first | rfl | (simp [Region.wanted]; done)) ?_ rfl ?_
    · intro wq hq0 hfq
      clear hfq
      unfold Oper.gives
      go_simp
      exact ⟨hq0, Below.refl _ _, rfl⟩
    rintro x9 ⟨_, ⟨_, rfl⟩⟩
    simp only [Act.put, List.setIfInBounds_toArray, List.set_cons_succ, List.set_cons_zero]
    refine Rel.wpSpec_quiet 1 (by kernel_rfl) (by kernel_rfl) ?_
    simp only [List.take_succ_cons, List.take_zero, List.drop_succ_cons, List.drop_zero]
    repeat (go_big_quiet_step (fail))
    refine wpQuiet_nil ?_
    show Rel.wpSpec _ _ _ _ _ _ _ _ _ _ _
    intro w9 hqn hfq
    have f8 := hfq 8
    simp only [upd, Nat.beq, cond] at f8
    clear hfq hp0
    obtain ⟨a8', c8', e8, o8, l8⟩ := f8
    cases e8
    have hq := (H_hCd1.out _).1 hqn
    have hn8 : nx1 = L1.length := by rw [H_hL1.out, H_hnx1.out, List.length_append]
    rw [hn8, ← idsC_append, ← H_hL1.out] at o8
    rw [hn8] at l8 ⊢
    have P_0 := hq.s.p.cell (j := 1) (v := (.slice ra r.length rc)) rfl
    have P_f := hq.s.p.free 1
    have hSw9 := hq.s.putB o8 l8 (fun q e => (hD8.S.a.lt q e).2)
    have hbw9 : Below sb w8 (w9.setCell ⟨sb, 1, none⟩ (.slice a8 L1.length c8)) := (hq.bel.mono (by omega)).setCell (by simp) _
    have hD10 := hD8.put hbw9 (by have := hq.size; have := hD8.size; simp; omega) H_hAs.out H_hBs.out H_hG.out hSw9
    clear hqn hSw9 hbw9 o8 l8 hq
    go_wp2_with fail
    go_ret
    refine ⟨rfl, hD10.bel, ?_⟩
    show ∃ la' lc' ra' rc', SeaW _ sb (l ++ lackP a b) (r ++ lackP b a) (k + 1) la' lc' ra' rc'
    rw [← H_hzl0.out, ← H_hL0.out, ← H_hzl1.out, ← H_hL1.out]
    exact ⟨_, _, _, _, hD10.S⟩

end Go.Proofs.YtfabcdpmnbeflaaDoor

/- Two increasing lists descended together: where they part. -/
namespace Go.Proofs.YtfabcdpmnbeflaaDoor
open Go.RowKit
set_option linter.unusedVariables false

def loA (a b : List (List Int)) : List Int := if cmpZ (pc b 0) (pc a 0) < 0 then pc b 0 else pc a 0
def hiA (a b : List (List Int)) : List Int := if 0 < cmpZ (pc b (b.length - 1)) (pc a (a.length - 1)) then pc b (b.length - 1) else pc a (a.length - 1)
theorem loA_is {a b : List (List Int)} (ha : IncL a) (hb : IncL b) (h1 : 0 < a.length) (h2 : 0 < b.length) : loA a b ∈ a ++ b ∧ (loA a b = pc a 0 ∨ ltB (loA a b) (pc a 0)) ∧ ∀ x ∈ a ++ b, x = loA a b ∨ ltB (loA a b) x := by
  have ia := ha.at h1
  have ib := hb.at h2
  have low : ∀ {l lo x : List Int}, (x = l ∨ ltB l x) → (l = lo ∨ ltB lo l) → (x = lo ∨ ltB lo x) := fun h k => by
    rcases h with rfl | h
    · exact k
    · rcases k with rfl | k
      · exact .inr h
      · exact .inr (ltB_trans k h)
  unfold loA
  by_cases hc : cmpZ (pc b 0) (pc a 0) < 0
  · rw [if_pos hc]
    have hl := (lt_iff ib ia).1 hc
    refine ⟨List.mem_append_right _ (pc_mem h2), .inr hl, fun x hx => ?_⟩
    rcases List.mem_append.1 hx with hx | hx
    · exact low (ha.bounds x hx).1 (.inr hl)
    · exact (hb.bounds x hx).1
  · rw [if_neg hc]
    refine ⟨List.mem_append_left _ (pc_mem h1), .inl rfl, fun x hx => ?_⟩
    rcases List.mem_append.1 hx with hx | hx
    · exact (ha.bounds x hx).1
    · refine low (hb.bounds x hx).1 ?_
      by_cases e : pc b 0 = pc a 0
      · exact .inl e
      · rcases lt_total ib ia e with h | h
        · exact absurd ((lt_iff ib ia).2 h) hc
        · exact .inr h
theorem hiA_is {a b : List (List Int)} (ha : IncL a) (hb : IncL b) (h1 : 0 < a.length) (h2 : 0 < b.length) : hiA a b ∈ a ++ b ∧ (hiA a b = pc a (a.length - 1) ∨ ltB (pc a (a.length - 1)) (hiA a b)) ∧ ∀ x ∈ a ++ b, x = hiA a b ∨ ltB x (hiA a b) := by
  have ia := ha.at (show a.length - 1 < a.length by omega)
  have ib := hb.at (show b.length - 1 < b.length by omega)
  have high : ∀ {l hi x : List Int}, (x = l ∨ ltB x l) → (l = hi ∨ ltB l hi) → (x = hi ∨ ltB x hi) := fun h k => by
    rcases h with rfl | h
    · exact k
    · rcases k with rfl | k
      · exact .inr h
      · exact .inr (ltB_trans h k)
  unfold hiA
  by_cases hc : 0 < cmpZ (pc b (b.length - 1)) (pc a (a.length - 1))
  · rw [if_pos hc]
    have hl : ltB (pc a (a.length - 1)) (pc b (b.length - 1)) := (lt_iff ia ib).1 (by have := cmpZ_anti (pc a (a.length - 1)) (pc b (b.length - 1)); omega)
    refine ⟨List.mem_append_right _ (pc_mem (by omega)), .inr hl, fun x hx => ?_⟩
    rcases List.mem_append.1 hx with hx | hx
    · exact high (ha.bounds x hx).2 (.inr hl)
    · exact (hb.bounds x hx).2
  · rw [if_neg hc]
    refine ⟨List.mem_append_left _ (pc_mem (by omega)), .inl rfl, fun x hx => ?_⟩
    rcases List.mem_append.1 hx with hx | hx
    · exact (ha.bounds x hx).2
    · refine high (hb.bounds x hx).2 ?_
      by_cases e : pc b (b.length - 1) = pc a (a.length - 1)
      · exact .inl e
      · rcases lt_total ib ia e with h | h
        · exact .inr h
        · have h' := (lt_iff ia ib).2 h
          have := cmpZ_anti (pc a (a.length - 1)) (pc b (b.length - 1))
          exact absurd (show 0 < cmpZ (pc b (b.length - 1)) (pc a (a.length - 1)) by omega) hc
/-- What the cut of two lists is told. -/
structure CutU (a b : List (List Int)) (N : Nat) : Prop where
  hN : N < 256
  is : IsSplit (a ++ b) N
  ap : apN (loA a b) (hiA a b) = N
  catA : zerosL a N ++ onesL a N = a
  catB : zerosL b N ++ onesL b N = b
  z : 0 < (zerosL a N).length + (zerosL b N).length
  o : 0 < (onesL a N).length + (onesL b N).length
theorem cutU_of {a b : List (List Int)} {N : Nat} (ha : IncL a) (hb : IncL b) (hs : IsSplit (a ++ b) N) : zerosL a N ++ onesL a N = a ∧ zerosL b N ++ onesL b N = b ∧ 0 < (zerosL a N).length + (zerosL b N).length ∧ 0 < (onesL a N).length + (onesL b N).length := by
  have hz : zerosL (a ++ b) N = zerosL a N ++ zerosL b N := by unfold zerosL; rw [List.filter_append]
  have ho : onesL (a ++ b) N = onesL a N ++ onesL b N := by unfold onesL; rw [List.filter_append]
  have hp := hs.zeros_pos
  rw [hz, ho, List.length_append, List.length_append] at hp
  exact ⟨cut_cat ha.inc fun j hj x hx y hy => hs.2.1 j hj x (List.mem_append_left _ hx) y (List.mem_append_left _ hy), cut_cat hb.inc fun j hj x hx y hy => hs.2.1 j hj x (List.mem_append_right _ hx) y (List.mem_append_right _ hy), hp.1, hp.2⟩
theorem cutU {a b : List (List Int)} (ha : IncL a) (hb : IncL b) (h2 : 2 ≤ a.length) (k2 : 0 < b.length) : CutU a b (splitN (a ++ b)) := by
  obtain ⟨l1, l2, l3⟩ := loA_is ha hb (by omega) k2
  obtain ⟨h1, h2', h3⟩ := hiA_is ha hb (by omega) k2
  have hlt : ltB (pc a 0) (pc a (a.length - 1)) := ha.lt (by omega) (by omega)
  have h5 : ltB (loA a b) (pc a (a.length - 1)) := by
    rcases l2 with e | h
    · rw [e]; exact hlt
    · exact ltB_trans h hlt
  have h6 : ltB (loA a b) (hiA a b) := by
    rcases h2' with e | h
    · rw [e]; exact h5
    · exact ltB_trans h5 h
  obtain ⟨n, hn⟩ := h6
  have hs : IsSplit (a ++ b) n := IsSplit.of_diff hn l1 h1 fun x hx => ⟨l3 x hx, h3 x hx⟩
  rw [hs.eq]
  obtain ⟨c1, c2, c3, c4⟩ := cutU_of ha hb hs
  exact ⟨hs.1, hs, hn.pair, c1, c2, c3, c4⟩
/-- How much descending gives. -/
theorem descF_facts : ∀ (m : Nat) (a b : List (List Int)), IncL a → IncL b → a.length + b.length ≤ m → (descF m a b).l.length ≤ a.length ∧ (descF m a b).r.length ≤ b.length ∧ 1 ≤ (descF m a b).n ∧ ((descF m a b).n ≤ 1 ∨ (descF m a b).n + 1 ≤ 2 * (a.length + b.length)) := by
  intro m
  induction m with
  | zero => intro a b _ _ _; exact ⟨Nat.zero_le _, Nat.zero_le _, Nat.le_refl _, .inl (Nat.le_refl _)⟩
  | succ m ih =>
    intro a b ha hb hm
    by_cases hr : rootP a = rootP b
    · rw [descF_eq hr]; exact ⟨Nat.zero_le _, Nat.zero_le _, Nat.le_refl _, .inl (Nat.le_refl _)⟩
    · by_cases h2 : a.length < 2 ∨ b.length < 2
      · rw [descF_few hr h2]; exact ⟨lack_len _ _, lack_len _ _, Nat.le_refl _, .inl (Nat.le_refl _)⟩
      · obtain ⟨N, hN⟩ : ∃ N, splitN (a ++ b) = N := ⟨_, rfl⟩
        have hC := cutU ha hb (by omega) (by omega)
        rw [hN] at hC
        rw [descF_more hr h2 hN]
        have la := cut_lens a N
        have lb := cut_lens b N
        have cz := hC.z
        have co := hC.o
        obtain ⟨p1, p2, p3, p4⟩ := ih (zerosL a N) (zerosL b N) (ha.zeros _) (hb.zeros _) (by omega)
        obtain ⟨q1, q2, q3, q4⟩ := ih (onesL a N) (onesL b N) (ha.ones _) (hb.ones _) (by omega)
        refine ⟨by simp; omega, by simp; omega, by simp; omega, .inr ?_⟩
        simp only
        omega

end Go.Proofs.YtfabcdpmnbeflaaDoor

/- Differ, of two valid lists. -/
namespace Go.Proofs.YtfabcdpmnbeflaaDoor
set_option linter.unusedSimpArgs false
set_option linter.unusedVariables false
set_option linter.unnecessarySimpa false
open Go.RowKit
set_option maxRecDepth 100000

set_option maxHeartbeats 2000000 in
theorem differ_ok (a b : List (List Int)) (D : DescA) (aa ba : Option Addr) (na ac nb bc : Nat) (w : World) (ha : IncL a) (hb : IncL b) (hna : na = a.length) (hnb : nb = b.length) (h60 : na ≤ 60) (h60b : nb ≤ 60) (hA : IdsIn w aa ac a) (hB : IdsIn w ba bc b) (hT : TabK w) (hAl : ∀ x, aa = some x → x.block < w.heap.size) (hBl : ∀ x, ba = some x → x.block < w.heap.size) (hd : DownOk a b D) (hid : (∀ x ∈ D.l, IdIn x) ∧ ∀ x ∈ D.r, IdIn x) :
    Calls Tryd.prog 22 #[.slice aa na ac, .slice ba nb bc] w fun e w' =>
      (∃ la lc ra rc, e = .returned (.tuple #[.slice la D.l.length lc, .slice ra D.r.length rc, .int .i64 D.n, .int .i64 0]) ∧ IdsIn w' la lc D.l ∧ IdsIn w' ra rc D.r) ∧ Below w.heap.size w w' := by
  have hca := fun (W : World) (h : IdsIn W aa ac a) => check_any a aa na ac W h hna (by unfold maxLen; omega)
  have hcb := fun (W : World) (h : IdsIn W ba bc b) => check_any b ba nb bc W h hnb (by unfold maxLen; omega)
  rw [chk_of_inc ha (by omega)] at hca
  rw [chk_of_inc hb (by omega)] at hcb
  have H_hca := Box.mk hca
  have H_hcb := Box.mk hcb
  have H_hA := Box.mk hA
  have H_hB := Box.mk hB
  have H_hT := Box.mk hT
  have H_hAl := Box.mk hAl
  have H_hBl := Box.mk hBl
  have H_hd := Box.mk hd
  have H_hid := Box.mk hid
  have H_hna := Box.mk hna
  have H_hnb := Box.mk hnb
  have H_ha := Box.mk ha
  have H_hb := Box.mk hb
  clear hca hcb hA hB hT hAl hBl hd hid hna hnb ha hb
  go_enter Tryd.func22, Tryd.ntmps22
  have hb0 := Below.refl w.heap.size w
  go_wp2_with fail
  refine wp_gen fun w1 hc1 => ?_
  have kV : CellsAt w1 (some ⟨w.heap.size, 0, none⟩) [.slice aa na ac, .slice ba nb bc] := (Blk.cellsRow (Blk.newA w _ _ _ [.slice aa na ac, .slice ba nb bc] rfl rfl)).later hc1
  have hb1 : Below w.heap.size w w1 := bchain (by repeat' (first | with_reducible exact hb0 | with_reducible refine Below.drew ?_ | with_reducible refine below_drewN ?_ _ | with_reducible refine Below.alloc ?_ (by have := hb0.size; first | (simp; done) | (simp; omega) | omega) _ | with_reducible refine Below.setCell ?_ (by first | (simp; done) | (simp; omega) | omega) _)) hc1
  clear hc1
  go_loopw [17] (fun q wr => ∃ k : Nat, k ≤ 2 ∧ q = .int .i64 k ∧ Below w.heap.size w wr ∧ CellsAt wr (some ⟨w.heap.size, 0, none⟩) [.slice aa na ac, .slice ba nb bc]) (fun q _ => 2 - (intOf q).toNat)
  case atStart => exact ⟨0, by omega, rfl, hb1, kV⟩
  case round =>
    clear kV hb1
    obtain ⟨k, hk, rfl, hbw, kV⟩ := hrel
    have key : ∀ j v, ([.slice aa na ac, .slice ba nb bc] : List Value)[j]? = some v → wr.cell? ⟨w.heap.size, j, none⟩ = some v := fun j v hj => by
      rcases kV with h | ⟨b', o', e', h⟩
      · cases h
      · cases e'
        have := h j v hj
        rwa [Nat.zero_add] at this
    have V_0 := key 0 _ rfl
    have V_1 := key 1 _ rfl
    have V_l : w.heap.size < wr.heap.size := World.block_lt_of_cell? _ _ V_0
    clear key
    match k, hk with
    | 0, _ =>
      go_wp2_with fail
      with_reducible refine (H_hca.out _ (H_hA.out.later (by first | exact hbw | exact hbw.drew))).mono ?_
      rintro e w11 ⟨rfl, hc11⟩
      have kV2 := kV.later hc11
      have hb11 := bchain hbw hc11
      clear hc11 V_0 V_1 V_l kV hbw
      go_wp2_with fail
      go_roundw
      case rel => exact ⟨1, by omega, by go_num, hb11, kV2⟩
      case measure => simp [intOf]
    | 1, _ =>
      go_wp2_with fail
      with_reducible refine (H_hcb.out _ (H_hB.out.later (by first | exact hbw | exact hbw.drew))).mono ?_
      rintro e w11 ⟨rfl, hc11⟩
      have kV2 := kV.later hc11
      have hb11 := bchain hbw hc11
      clear hc11 V_0 V_1 V_l kV hbw
      go_wp2_with fail
      go_roundw
      case rel => exact ⟨2, by omega, by go_num, hb11, kV2⟩
      case measure => simp [intOf]
    | 2, _ =>
      clear V_0 V_1 V_l kV
      go_upto_region 9 with fail
      refine wp_gen fun w12 hc12 => ?_
      have hP : Blk w12 wr.heap.size 70 [.slice none 0 0, .slice none 0 0, .int .i64 0] := Blk.later (Blk.newA wr _ _ _ _ rfl rfl) hc12
      have hb12 : Below w.heap.size w w12 := bchain (hbw.alloc (by have := hbw.size; omega) _) hc12
      clear hc12
      have hS : SeaW w12 wr.heap.size [] [] 0 none 0 none 0 := ⟨hP, OwnX.nil _ _ _ _, OwnX.nil _ _ _ _, fun q h => by simp [Value.ownBlock] at h⟩
      have zw := hbw.size
      have hG : 1 < wr.heap.size := Nat.lt_of_lt_of_le H_hT.out.z zw
      go_wp2_with fail
      have hD := H_hd.out aa ba ac bc wr.heap.size [] [] 0 none 0 none 0 w12 (H_hA.out.later hb12) (H_hB.out.later hb12) (fun x e => by have := H_hAl.out x e; omega) (fun x e => by have := H_hBl.out x e; omega) (H_hT.out.later hb12) hG hS (by have := H_hna.out; simp; omega) (by have := H_hnb.out; simp; omega) (by have := H_hna.out; have := H_hnb.out; omega)
      rw [← H_hna.out, ← H_hnb.out] at hD
      refine hD.mono ?_
      rintro e w13 ⟨rfl, hbel, la, lc, ra, rc, hS2⟩
      rw [List.nil_append, List.nil_append, Nat.zero_add] at hS2
      have hb13 : Below w.heap.size w w13 := hb12.trans (hbel.mono zw)
      have S_0 := hS2.p.cell (j := 0) (v := .slice la D.l.length lc) rfl
      have S_1 := hS2.p.cell (j := 1) (v := .slice ra D.r.length rc) rfl
      have S_2 := hS2.p.cell (j := 2) (v := .int .i64 D.n) rfl
      have S_l := hS2.p.lt
      clear hP hS hG hD hbel hb12
      go_wp2_with fail
      refine wp_gen fun w21 hc21 => ?_
      have hb21 : Below w.heap.size w w21 := bchain (by repeat' (first | with_reducible exact hb13 | with_reducible refine Below.drew ?_ | with_reducible refine below_drewN ?_ _ | with_reducible refine Below.alloc ?_ (by have := hb13.size; first | (simp; done) | (simp; omega) | omega) _ | with_reducible refine Below.setCell ?_ (by first | (simp; done) | (simp; omega) | omega) _)) hc21
      have hst21 : Below w13.heap.size w13 w21 := bchain (by repeat' (first | with_reducible exact Below.refl _ _ | with_reducible refine Below.drew ?_ | with_reducible refine below_drewN ?_ _ | with_reducible refine Below.alloc ?_ (by first | (simp; done) | (simp; omega) | omega) _ | with_reducible refine Below.setCell ?_ (by first | (simp; done) | (simp; omega) | omega) _)) hc21
      replace S_0 := cell_later hst21 S_0
      replace S_1 := cell_later hst21 S_1
      replace S_2 := cell_later hst21 S_2
      replace S_l := Nat.lt_of_lt_of_le S_l hst21.size
      replace hS2 := hS2.later hst21
      clear hst21
      have KS_0 := cell_on S_0
      have KS_1 := cell_on S_1
      have KS_2 := cell_on S_2
      refine wp_region_on (by kernel_rfl) (by kernel_rfl) ?_
      repeat (go_big_quiet_step (fail))
      refine wpQuiet_nil ?_
      intro w22 hc22
      clear KS_0 KS_1 KS_2
      have hb22 : Below w.heap.size w w22 := bchain (by repeat' (first | with_reducible exact hb21 | with_reducible refine Below.drew ?_ | with_reducible refine below_drewN ?_ _ | with_reducible refine Below.alloc ?_ (by have := hb21.size; first | (simp; done) | (simp; omega) | omega) _ | with_reducible refine Below.setCell ?_ (by first | (simp; done) | (simp; omega) | omega) _)) hc22
      have hst22 : Below w21.heap.size w21 w22 := bchain (by repeat' (first | with_reducible exact Below.refl _ _ | with_reducible refine Below.drew ?_ | with_reducible refine below_drewN ?_ _ | with_reducible refine Below.alloc ?_ (by first | (simp; done) | (simp; omega) | omega) _ | with_reducible refine Below.setCell ?_ (by first | (simp; done) | (simp; omega) | omega) _)) hc22
      replace S_0 := cell_later hst22 S_0
      replace S_1 := cell_later hst22 S_1
      replace S_2 := cell_later hst22 S_2
      replace S_l := Nat.lt_of_lt_of_le S_l hst22.size
      replace hS2 := hS2.later hst22
      clear hst22
      go_wp2_with fail
      exact bodyPost_ret (v := .tuple #[.slice la D.l.length lc, .slice ra D.r.length rc, .int .i64 D.n, .int .i64 0]) (by simp [results, Tryd.results22, go_sem, *]) rfl ⟨⟨la, lc, ra, rc, rfl, hS2.a.idsIn rfl H_hid.out.1, hS2.b.idsIn rfl H_hid.out.2⟩, hb22⟩

end Go.Proofs.YtfabcdpmnbeflaaDoor
