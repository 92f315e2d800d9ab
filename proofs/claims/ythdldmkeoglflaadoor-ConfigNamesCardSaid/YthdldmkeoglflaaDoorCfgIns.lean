/- slices.Clone and slices.Insert at []Peer: one element into a slice of the call's own. -/
import Derived.Test.YthdldmkeoglflaaDoorIns
import Derived.Test.YthdldmkeoglflaaDoorCfgFind
import Derived.Lib.SliceRun
namespace Go.Proofs.YthdldmkeoglflaaDoor
set_option maxRecDepth 100000
set_option linter.unusedSimpArgs false
set_option linter.unusedVariables false
set_option linter.unnecessarySimpa false
open Go.RowKit

theorem info_peer : (Tryd.prog.info? 46).map (fun i => (i.zero, i.size, i.bytes)) = some (some (.agg #[.string ⟨#[]⟩, .int .u32 0]), 2, 24) := by kernel_rfl

set_option maxHeartbeats 400000 in
theorem cloneS_any (a : Option Addr) (n c : Nat) (hs : Peers) (w : World) (hn : n = hs.length) (hc : CellsAt w a (cel hs)) (hb : hs.length ≤ 1000000) :
    Calls Tryd.prog 51 #[.slice a n c] w fun e w' =>
      ∃ a' c', e = .returned (.slice a' n c') ∧ OwnX w' w.heap.size 46 2 (.slice a' n c') n (cel hs) ∧ Below w.heap.size w w' := by
  have hq := fun (w : World) => Lib.run_eql_slice_nil w 25 46 a n c 0 0 Tryd.underlying25
  obtain ⟨i0, hi, hz0, hz1, hz2⟩ := info_parts info_peer
  cases a with
  | none =>
    have hx : hs = [] := by
      rcases hc with h | ⟨b, o, h, _⟩
      · have := cel_len hs; rw [h] at this; simp at this; exact List.eq_nil_of_length_eq_zero (by omega)
      · cases h
    subst hx
    simp only [List.length_nil] at hn
    subst hn
    go_enter Tryd.func51, Tryd.ntmps51
    have hb0 := Below.refl w.heap.size w
    go_wp2_with fail
    go_ret
    exact ⟨_, _, rfl, OwnX.nil _ _ _ _, hb0⟩
  | some ad =>
    have Hc := hid hc
    clear hc
    subst hn
    go_enter Tryd.func51, Tryd.ntmps51
    have hb0 := Below.refl w.heap.size w
    go_wp2_with (at_builtin; refine stop ?_)
    refine Stop.go ?_
    refine wpList_append_x _ rfl _ _ 25 rfl w.heap.size 46 i0 (.agg #[.string ⟨#[]⟩, .int .u32 0]) 2 24 Tryd.underlying25 hi hz0 hz1 hz2 rfl (by decide) _ 0 [] rfl (OwnX.made _ [] _ _ 0 _ (Nat.le_refl _) (by simp [maxLen]) rfl) (some ad) hs.length c (cel hs) rfl (cel_len hs) (Hc.out.alloc _) (cel_one hs) (by unfold maxLen; omega) (by omega) (by simp) ?_
    intro a' c' w1 hown hg _
    rw [Nat.zero_add, List.nil_append] at hown
    go_wp2_with fail
    go_ret
    exact ⟨_, _, rfl, hown, below_grownX (hb0.alloc (Nat.le_refl _) _) hg (by simp) (fun k hk => ((OwnX.made w [] _ 0 0 2 (Nat.le_refl _) (by simp [maxLen]) rfl).lt k hk).1)⟩

/-- What Insert leaves. -/
def InsRet (w : World) (base : Nat) (s : Value) (n : Nat) (ys : List Value) (e : Ending) (w' : World) : Prop :=
  ∃ a' c', e = .returned (.slice a' (n + 1) c') ∧ OwnX w' base 46 2 (.slice a' (n + 1) c') (n + 1) ys ∧ w.grownBy w' s.ownBlock ∧ ∀ k, (Value.slice a' (n + 1) c').ownBlock = some k → s.ownBlock = some k ∨ w.heap.size ≤ k

set_option maxHeartbeats 1000000 in
theorem insS_end (n c base vb vc : Nat) (s : Option Addr) (xs news : List Value) (w : World) (hown : OwnX w base 46 2 (.slice s n c) n xs) (hl : news.length = 2) (hv : CellsAt w (some ⟨vb, 0, none⟩) news) (h1 : ∀ u ∈ news, u.oneCell' = true) (hb : n ≤ 1000000) (hbase : base ≤ w.heap.size) :
    Calls Tryd.prog 50 #[.slice s n c, .int .i64 n, .slice (some ⟨vb, 0, none⟩) 1 vc] w fun e w' =>
      InsRet w base (.slice s n c) n (xs ++ news) e w' := by
  obtain ⟨i0, hi, hz0, hz1, hz2⟩ := info_parts info_peer
  have Ho := hid hown
  have Hv := hid hv
  have Hl := hid hl
  have hnc : n ≤ c := by obtain ⟨a', c', hv', h, _⟩ := hown.cells; cases hv'; exact h
  clear hown hv hl
  by_cases hcn : n = c
  · obtain rfl := hcn
    go_enter Tryd.func50, Tryd.ntmps50
    have hb0 := Below.refl w.heap.size w
    go_wp2_with (at_builtin; refine stop ?_)
    refine Stop.go ?_
    refine wpList_append_x _ rfl _ _ 25 rfl base 46 i0 (.agg #[.string ⟨#[]⟩, .int .u32 0]) 2 24 Tryd.underlying25 hi hz0 hz1 hz2 rfl (by decide) _ n xs rfl Ho.out (some ⟨vb, 0, none⟩) 1 vc news rfl Hl.out Hv.out h1 (by unfold maxLen; omega) (by omega) hbase ?_
    intro a' c' w1 hown hg hk
    go_wp2_with fail
    go_ret
    exact ⟨_, _, rfl, hown, hg, fun k h => (hk k h).imp id (fun h => by omega)⟩
  · skip
    go_enter Tryd.func50, Tryd.ntmps50
    have hb0 := Below.refl w.heap.size w
    go_wp2_with (at_builtin; refine stop ?_)
    refine Stop.go ?_
    refine wpList_append_x _ rfl _ _ 25 rfl base 46 i0 (.agg #[.string ⟨#[]⟩, .int .u32 0]) 2 24 Tryd.underlying25 hi hz0 hz1 hz2 rfl (by decide) _ n xs rfl Ho.out (some ⟨vb, 0, none⟩) 1 vc news rfl Hl.out Hv.out h1 (by unfold maxLen; omega) (by omega) hbase ?_
    intro a' c' w1 hown hg hk
    go_wp2_with fail
    go_ret
    exact ⟨_, _, rfl, hown, hg, fun k h => (hk k h).imp id (fun h => by omega)⟩

set_option maxHeartbeats 2000000 in
theorem insS_room (i n c base vb vc g : Nat) (cur : Array Value) (xs news : List Value) (w : World) (hin : i < n) (hroom : n + 1 ≤ c) (hc63 : c ≤ maxLen) (hg : w.heap[g]? = some (.cells cur 46 (0, 0))) (hcs : cur.size = c * 2) (htk : cur.toList.take (n * 2) = xs) (hB : base ≤ g) (hx1 : ∀ u ∈ xs, u.oneCell' = true)
    (hl : news.length = 2) (hv : w.heap[vb]? = some (.cells news.toArray 46 (0, 0))) (h1 : ∀ u ∈ news, u.oneCell' = true) (hne : vb ≠ g) :
    Calls Tryd.prog 50 #[.slice (some ⟨g, 0, none⟩) n c, .int .i64 i, .slice (some ⟨vb, 0, none⟩) 1 vc] w fun e w' =>
      InsRet w base (.slice (some ⟨g, 0, none⟩) n c) n (xs.take (i * 2) ++ news ++ xs.drop (i * 2)) e w' := by
  obtain ⟨i0, hi, hz0, hz1, hz2⟩ := info_parts info_peer
  unfold maxLen at hc63
  have hz : ∀ w : World, (Go.sizeOf 46).run Tryd.prog w = .ok 2 w := fun w => by simp [sizeOf, typeInfo, hi, hz1]
  have hov : ∀ o lb cb, (callFunc 76 #[.slice (some ⟨vb, 0, none⟩) 1 vc, .slice (some ⟨g, o, none⟩) lb cb]).run Tryd.prog w = .ok (.value (.bool false)) w := fun o lb cb => by
    rw [run_callFunc_extern Tryd.func76 (by kernel_rfl) (by kernel_rfl) (by kernel_rfl) (e := Extern.SlicesOverlaps.overlaps #[25, 25] #[4]) (by kernel_rfl),
      Lib.run_overlaps_apart w 25 4 46 Tryd.underlying25 2 hz ⟨vb, 0, none⟩ ⟨g, o, none⟩ 1 vc lb cb hne 46 46 2 (c * 2) (by simp [World.shape?, hv, hl]) (by simp [World.shape?, hg, hcs]) (by omega) (by simp [World.frozen?, hv]) (by simp [World.frozen?, hv])]
    rfl
  have Hov := hid hov
  clear hov
  have hxl : xs.length = n * 2 := by rw [← htk, List.length_take, Array.length_toList, hcs]; omega
  have hxa : ∀ j u, xs[j]? = some u → w.cell? ⟨g, j, none⟩ = some u := fun j u hj => by
    have hj2 : j < n * 2 := by rw [← hxl]; exact (List.getElem?_eq_some_iff.1 hj).1
    rw [← htk, List.getElem?_take, if_pos hj2] at hj
    rw [cell_of_row w g j cur 46 (0, 0) hg]
    simpa using hj
  have hdl : (xs.drop (i * 2)).length = (n - i) * 2 := by rw [List.length_drop, hxl, Nat.sub_mul]
  obtain ⟨cur1, hcur1⟩ : ∃ cur1 : Array Value, cur1 = (cur.toList.take ((i + 1) * 2) ++ xs.drop (i * 2) ++ cur.toList.drop ((i + 1) * 2 + (xs.drop (i * 2)).length)).toArray := ⟨_, rfl⟩
  have hs1 : cur1.size = c * 2 := by
    rw [hcur1]; simp only [List.size_toArray, List.length_append, List.length_take, List.length_drop, Array.length_toList, hcs, hxl]; omega
  have hc1 : ∀ ty dc sc, (Builtin.copy_ #[25, 25] ty #[.slice (some ⟨g, (i + 1) * 2, none⟩) (n - i) dc, .slice (some ⟨g, i * 2, none⟩) (n + 1 - i) sc]).run Tryd.prog w.drew = .ok (goInt (n - i : Nat)) (w.drew.setRow g cur1) := fun ty dc sc => by
    rw [hcur1]
    exact run_copy_rowS w.drew _ _ ty 46 i0 hi 2 hz1 g ((i + 1) * 2) (n - i) dc ⟨g, i * 2, none⟩ (n + 1 - i) sc cur 46 (xs.drop (i * 2)) (n - i) Tryd.underlying25 hg (by simp only [Nat.min_def]; split <;> omega) hdl
      (fun j v hj => by rw [Addr.add_lit]; exact hxa _ _ (by rwa [List.getElem?_drop] at hj)) (by rw [hdl, hcs]; omega) (fun v hv => hx1 v (List.mem_of_mem_drop hv))
  obtain ⟨cur2, hcur2⟩ : ∃ cur2 : Array Value, cur2 = (cur1.toList.take (i * 2) ++ news ++ cur1.toList.drop (i * 2 + news.length)).toArray := ⟨_, rfl⟩
  have hg1 : (w.drew.setRow g cur1).heap[g]? = some (.cells cur1 46 (0, 0)) := setRow_heap w.drew g cur _ _ _ hg
  have hv1 : (w.drew.setRow g cur1).heap[vb]? = some (.cells news.toArray 46 (0, 0)) := (setRow_other w.drew g vb _ hne).trans hv
  have hc2 : ∀ ty dc sc, (Builtin.copy_ #[25, 25] ty #[.slice (some ⟨g, i * 2, none⟩) (n + 1 - i) dc, .slice (some ⟨vb, 0, none⟩) 1 sc]).run Tryd.prog (w.drew.setRow g cur1) = .ok (goInt (1 : Nat)) ((w.drew.setRow g cur1).setRow g cur2) := fun ty dc sc => by
    rw [hcur2]
    exact run_copy_rowS (w.drew.setRow g cur1) _ _ ty 46 i0 hi 2 hz1 g (i * 2) (n + 1 - i) dc ⟨vb, 0, none⟩ 1 sc cur1 46 news 1 Tryd.underlying25 hg1 (by simp only [Nat.min_def]; split <;> omega) hl
      (fun j v hj => by rw [Addr.add_lit, Nat.zero_add, cell_of_row _ vb j news.toArray 46 (0, 0) hv1]; simpa using hj) (by rw [hl, hs1]; omega) h1
  have hfin : (cur2.toList.take ((n + 1) * 2)) = xs.take (i * 2) ++ news ++ xs.drop (i * 2) := by
    rw [hcur2, hcur1, hl, hdl, ← htk]
    exact ins_list 2 cur.toList news n i hin (by rw [Array.length_toList, hcs]; omega) hl
  have hs2 : cur2.size = c * 2 := by
    rw [hcur2]; simp only [List.size_toArray, List.length_append, List.length_take, List.length_drop, Array.length_toList, hs1, hl]; omega
  have hlen : (xs.take (i * 2) ++ news ++ xs.drop (i * 2)).length = (n + 1) * 2 := by
    rw [List.length_append, List.length_append, hl, hdl, List.length_take, hxl]; omega
  have Hlen := hid hlen
  have Hf := hid hfin
  have Hs2 := hid hs2
  have Hg1 := hid hg1
  clear hfin hlen hs2 hcur1 hcur2 hs1 hg1 hv1 hdl hxa hxl htk hcs
  have k1 : ¬ ((i : Int) = (n : Int)) := by omega
  have k2 : ¬ ((c : Int) < (n : Int) + 1) := by omega
  have k3 : (i : Int) < (n : Int) := by omega
  go_enter Tryd.func50, Tryd.ntmps50
  have hb0 := Below.refl w.heap.size w
  go_wp2_with (simp only [Hov.out])
  have hw1 : IntKind.i64.wrap ((i : Int) + 1) = (i : Int) + 1 := by rw [IntKind.wrap_i64]; omega
  have hb1 : (0 : Int) ≤ (i : Int) + 1 := by omega
  have htn : ((i : Int) + 1).toNat = i + 1 := by omega
  have hb2 : ¬ (c = i + 1) := by omega
  have hb3 : (i : Int) + 1 ≤ (n : Int) + 1 := by omega
  have hb4 : ¬ (c = i) := by omega
  have hb5 : (i : Int) ≤ (n : Int) + 1 := by omega
  have hb6 : n + 1 - (i + 1) = n - i := by omega
  go_region
  go_wp2_with fail
  go_ret
  refine ⟨_, _, rfl, ⟨Hlen.out, .inr ⟨g, c, cur2, rfl, hB, ?_, hroom, by unfold maxLen; omega, Hs2.out, Hf.out⟩⟩, ?_, fun k h => .inl h⟩
  · exact setRow_heap _ g cur1 _ _ _ Hg1.out
  · refine ⟨rfl, rfl, rfl, by simp, fun k _ hk => ?_⟩
    have hkg : k ≠ g := fun e => hk (by simp [Value.ownBlock, e])
    rw [setRow_other _ g k _ hkg, setRow_other _ g k _ hkg]
    rfl

set_option maxHeartbeats 2000000 in
theorem insS_grow (i n base vb vc g : Nat) (cur : Array Value) (xs news : List Value) (w : World) (hin : i < n) (hb : n ≤ 1000000) (hg : w.heap[g]? = some (.cells cur 46 (0, 0))) (hcs : cur.size = n * 2) (htk : cur.toList.take (n * 2) = xs) (hbase : base ≤ w.heap.size) (hx1 : ∀ u ∈ xs, u.oneCell' = true)
    (hl : news.length = 2) (hv : w.heap[vb]? = some (.cells news.toArray 46 (0, 0))) (h1 : ∀ u ∈ news, u.oneCell' = true) :
    Calls Tryd.prog 50 #[.slice (some ⟨g, 0, none⟩) n n, .int .i64 i, .slice (some ⟨vb, 0, none⟩) 1 vc] w fun e w' =>
      InsRet w base (.slice (some ⟨g, 0, none⟩) n n) n (xs.take (i * 2) ++ news ++ xs.drop (i * 2)) e w' := by
  obtain ⟨i0, hi, hz0, hz1, hz2⟩ := info_parts info_peer
  have hgl := lt_of_block hg
  have hvl := lt_of_block hv
  have hxl : xs.length = n * 2 := by rw [← htk, List.length_take, Array.length_toList, hcs]; omega
  have hxa : ∀ j u, xs[j]? = some u → w.cell? ⟨g, j, none⟩ = some u := fun j u hj => by
    have hj2 : j < n * 2 := by rw [← hxl]; exact (List.getElem?_eq_some_iff.1 hj).1
    rw [← htk, List.getElem?_take, if_pos hj2] at hj
    rw [cell_of_row w g j cur 46 (0, 0) hg]
    simpa using hj
  have hdl : (xs.drop (i * 2)).length = (n - i) * 2 := by rw [List.length_drop, hxl, Nat.sub_mul]
  have hal : (xs.take (i * 2)).length = i * 2 := by rw [List.length_take, hxl]; omega
  have hge := grownCap_ge w (i + (n + 1 - i)) n 46
  have hcm : grownCap w (i + (n + 1 - i)) n 46 ≤ maxLen := grownCap_le_maxLen w _ n _ (by unfold maxLen; omega)
  have ei : i + (n + 1 - i) = n + 1 := by omega
  have eint : ((n : Int) + 1 - (i : Int)) = ((n + 1 - i : Nat) : Int) := by omega
  have hrun := fun ty =>
    run_append_zerosG (P := Tryd.prog) w 25 3 ty 46 i0 (.agg #[.string ⟨#[]⟩, .int .u32 0]) .i64 .i64 Tryd.underlying25 Tryd.underlying3 hi hz0 ⟨g, 0, none⟩ i n (n + 1 - i) (xs.take (i * 2)) (by rw [hal, hz1]) (fun j u hj => by rw [Addr.add_lit, Nat.zero_add]; rw [List.getElem?_take] at hj; split at hj; exact hxa _ _ hj; cases hj) (by omega) (by omega) (by omega) (by unfold maxLen; omega) (by rw [hz2]; omega)
  simp only [ei] at hrun
  rw [ei] at hge hcm
  obtain ⟨cap, hcap⟩ : ∃ cap, cap = grownCap w (n + 1) n 46 := ⟨_, rfl⟩
  simp only [← hcap] at hrun
  rw [← hcap] at hge hcm
  obtain ⟨cur0, hcur0⟩ : ∃ cur0 : Array Value, cur0 = (xs.take (i * 2)).toArray ++ Builtin.zeroCells (Value.agg #[.string ⟨#[]⟩, .int .u32 0]).cells (n + 1 - i) ++ Builtin.zeroCells (Value.agg #[.string ⟨#[]⟩, .int .u32 0]).cells (cap - (n + 1)) := ⟨_, rfl⟩
  simp only [← hcur0] at hrun
  have hs0 : cur0.size = cap * 2 := by
    rw [hcur0]; simp only [Array.size_append, List.size_toArray, size_zeroCells, hal]; simp [Value.cells]; omega
  have htk0 : cur0.toList.take (i * 2) = xs.take (i * 2) := by
    rw [hcur0]; simp only [Array.toList_append, List.append_assoc]; rw [← hal]; simp
  obtain ⟨W, hW⟩ : ∃ W, W = w.drew.alloc (.cells cur0 46) := ⟨_, rfl⟩
  simp only [← hW] at hrun
  have hWg : W.heap[g]? = some (.cells cur 46 (0, 0)) := by rw [hW]; exact (heap_alloc_old w.drew _ hgl).trans hg
  have hWv : W.heap[vb]? = some (.cells news.toArray 46 (0, 0)) := by rw [hW]; exact (heap_alloc_old w.drew _ hvl).trans hv
  have hWn : W.heap[w.heap.size]? = some (.cells cur0 46 (0, 0)) := by rw [hW]; exact heap_alloc_new w.drew _
  obtain ⟨cur1, hcur1⟩ : ∃ cur1 : Array Value, cur1 = (cur0.toList.take (i * 2) ++ news ++ cur0.toList.drop (i * 2 + news.length)).toArray := ⟨_, rfl⟩
  have hs1 : cur1.size = cap * 2 := by
    rw [hcur1]; simp only [List.size_toArray, List.length_append, List.length_take, List.length_drop, Array.length_toList, hs0, hl]; omega
  have hc1 : ∀ ty dc sc, (Builtin.copy_ #[25, 25] ty #[.slice (some ⟨w.heap.size, i * 2, none⟩) (n + 1 - i) dc, .slice (some ⟨vb, 0, none⟩) 1 sc]).run Tryd.prog W = .ok (goInt (1 : Nat)) (W.setRow w.heap.size cur1) := fun ty dc sc => by
    rw [hcur1]
    exact run_copy_rowS W _ _ ty 46 i0 hi 2 hz1 w.heap.size (i * 2) (n + 1 - i) dc ⟨vb, 0, none⟩ 1 sc cur0 46 news 1 Tryd.underlying25 hWn (by simp only [Nat.min_def]; split <;> omega) hl
      (fun j v hj => by rw [Addr.add_lit, Nat.zero_add, cell_of_row _ vb j news.toArray 46 (0, 0) hWv]; simpa using hj) (by rw [hl, hs0]; omega) h1
  obtain ⟨cur2, hcur2⟩ : ∃ cur2 : Array Value, cur2 = (cur1.toList.take ((i + 1) * 2) ++ xs.drop (i * 2) ++ cur1.toList.drop ((i + 1) * 2 + (xs.drop (i * 2)).length)).toArray := ⟨_, rfl⟩
  have hg1 : (W.setRow w.heap.size cur1).drew.heap[w.heap.size]? = some (.cells cur1 46 (0, 0)) := setRow_heap W _ _ cur1 _ _ hWn
  have hg2 : (W.setRow w.heap.size cur1).drew.heap[g]? = some (.cells cur 46 (0, 0)) := (setRow_other W w.heap.size g cur1 (by omega)).trans hWg
  have hc2 : ∀ ty dc sc, (Builtin.copy_ #[25, 25] ty #[.slice (some ⟨w.heap.size, (i + 1) * 2, none⟩) (n - i) dc, .slice (some ⟨g, i * 2, none⟩) (n - i) sc]).run Tryd.prog (W.setRow w.heap.size cur1).drew = .ok (goInt (n - i : Nat)) ((W.setRow w.heap.size cur1).drew.setRow w.heap.size cur2) := fun ty dc sc => by
    rw [hcur2]
    exact run_copy_rowS (W.setRow w.heap.size cur1).drew _ _ ty 46 i0 hi 2 hz1 w.heap.size ((i + 1) * 2) (n - i) dc ⟨g, i * 2, none⟩ (n - i) sc cur1 46 (xs.drop (i * 2)) (n - i) Tryd.underlying25 hg1 (by simp only [Nat.min_def]; split <;> omega) hdl
      (fun j v hj => by
        rw [Addr.add_lit, cell_of_row _ g (i * 2 + j) cur 46 (0, 0) hg2]
        rw [List.getElem?_drop] at hj
        rw [← cell_of_row w g (i * 2 + j) cur 46 (0, 0) hg]
        exact hxa _ _ hj) (by rw [hdl, hs1]; omega) (fun v hv => hx1 v (List.mem_of_mem_drop hv))
  have hfin : (cur2.toList.take ((n + 1) * 2)) = xs.take (i * 2) ++ news ++ xs.drop (i * 2) := by
    rw [hcur2, hcur1]
    exact ins_list2 2 cur0.toList _ news _ n i hin (by rw [Array.length_toList, hs0]; omega) hl htk0 hdl
  have hs2 : cur2.size = cap * 2 := by
    rw [hcur2]; simp only [List.size_toArray, List.length_append, List.length_take, List.length_drop, Array.length_toList, hs1, hdl]; omega
  have hlen : (xs.take (i * 2) ++ news ++ xs.drop (i * 2)).length = (n + 1) * 2 := by
    rw [List.length_append, List.length_append, hal, hl, hdl]; omega
  have Hf := hid hfin
  have Hs2 := hid hs2
  have Hg1 := hid hg1
  have Hlen := hid hlen
  have HW := hid hW
  have Hrun := hid hrun
  clear hfin hs2 hcur1 hcur2 hs1 hg1 hg2 hdl hxa hxl htk hcs hlen hW hWg hWv hWn hs0 htk0 hcur0 hcap hal ei hrun hg hv
  unfold maxLen at hcm
  have k1 : ¬ ((i : Int) = (n : Int)) := by omega
  have k2 : (n : Int) < (n : Int) + 1 := by omega
  have k3 : (i : Int) < (n : Int) := by omega
  have k4 : ¬ (n = i) := by omega
  have k5 : ¬ (cap = i) := by omega
  go_enter Tryd.func50, Tryd.ntmps50
  have hb0 := Below.refl w.heap.size w
  go_wp2_with (at_builtin; refine stop ?_)
  refine Stop.go ?_
  refine Lib.wpList_append_run _ rfl _ _ 25 3 rfl (.slice (some ⟨g, 0, none⟩) i n) (.int .i64 ((n + 1 - i : Nat) : Int)) rfl rfl (.slice (some ⟨w.heap.size, 0, none⟩) (n + 1) cap) W (Hrun.out _) ?_
  have hw1 : IntKind.i64.wrap ((i : Int) + 1) = (i : Int) + 1 := by rw [IntKind.wrap_i64]; omega
  have hb1 : (0 : Int) ≤ (i : Int) + 1 := by omega
  have htn : ((i : Int) + 1).toNat = i + 1 := by omega
  have hb2 : ¬ (cap = i + 1) := by omega
  have hb3 : (i : Int) + 1 ≤ (n : Int) + 1 := by omega
  have hb5 : (i : Int) ≤ (n : Int) + 1 := by omega
  have hb6 : n + 1 - (i + 1) = n - i := by omega
  go_wp2_with fail
  go_region
  go_wp2_with fail
  go_ret
  refine ⟨_, _, rfl, ⟨Hlen.out, .inr ⟨w.heap.size, cap, cur2, rfl, hbase, ?_, by omega, by unfold maxLen; omega, Hs2.out, Hf.out⟩⟩, ?_, fun k h => .inr ?_⟩
  · exact setRow_heap _ _ cur1 _ _ _ Hg1.out
  · have hsz : (W.setRow w.heap.size cur1).drew.heap.size = w.heap.size + 1 := by
      have : W.heap.size = w.heap.size + 1 := by rw [HW.out]; simp
      simp [World.setRow, this]
    refine ⟨by rw [HW.out]; rfl, by rw [HW.out]; rfl, by rw [HW.out]; rfl, by simp [World.setRow] at hsz ⊢; omega, fun k hkl _ => ?_⟩
    have hkg : k ≠ w.heap.size := by omega
    rw [setRow_other _ _ k _ hkg]
    refine (setRow_other _ _ k _ hkg).trans ?_
    rw [HW.out]
    exact heap_alloc_old w.drew _ hkl
  · have : w.heap.size = k := by simpa [Value.ownBlock] using h
    omega

theorem insS_any (i n c base vb vc : Nat) (s : Option Addr) (xs news : List Value) (w : World) (hin : i ≤ n) (hown : OwnX w base 46 2 (.slice s n c) n xs) (hx1 : ∀ u ∈ xs, u.oneCell' = true) (hl : news.length = 2) (hv : w.heap[vb]? = some (.cells news.toArray 46 (0, 0))) (h1 : ∀ u ∈ news, u.oneCell' = true) (hb : n ≤ 1000000) (hbase : base ≤ w.heap.size) (hne : ∀ ad, s = some ad → vb ≠ ad.block) :
    Calls Tryd.prog 50 #[.slice s n c, .int .i64 i, .slice (some ⟨vb, 0, none⟩) 1 vc] w fun e w' =>
      InsRet w base (.slice s n c) n (xs.take (i * 2) ++ news ++ xs.drop (i * 2)) e w' := by
  by_cases hi : i = n
  · subst hi
    have hxl : xs.length = i * 2 := hown.1
    have hcv : CellsAt w (some ⟨vb, 0, none⟩) news := .inr ⟨vb, 0, rfl, fun j u hj => by rw [Nat.zero_add, cell_of_row w vb j news.toArray 46 (0, 0) hv]; simpa using hj⟩
    have := insS_end i c base vb vc s xs news w hown hl hcv h1 hb hbase
    rw [← hxl, List.take_length, List.drop_length, List.append_nil]
    exact this
  · rcases hown.2 with ⟨e0, _⟩ | ⟨g, cap, cur, e0, hB, hg, hnc, hcm, hcs, htk⟩
    · cases e0; omega
    · cases e0
      by_cases hr : n + 1 ≤ c
      · exact insS_room i n c base vb vc g cur xs news w (by omega) hr hcm hg hcs htk hB hx1 hl hv h1 (hne _ rfl)
      · obtain rfl : n = c := by omega
        exact insS_grow i n base vb vc g cur xs news w (by omega) hb hg hcs htk hbase hx1 hl hv h1

end Go.Proofs.YthdldmkeoglflaaDoor
