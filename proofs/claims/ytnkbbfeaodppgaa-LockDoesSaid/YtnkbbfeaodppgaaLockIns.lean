/- slices.Insert at []int, of a slice without room. -/
import Derived.Test.YtnkbbfeaodppgaaLockRTwin
import Derived.Test.YtnkbbfeaodppgaaIns
import Derived.ArgAppend
namespace Go.Proofs.Ytnkbbfeaodppgaa
set_option linter.unusedSimpArgs false
set_option linter.unusedVariables false
set_option linter.unnecessarySimpa false
open Go.RowKit

/-- What Insert leaves. -/
def InsRet (w : World) (n : Nat) (ys : List Value) (e : Ending) (w' : World) : Prop :=
  ∃ a' c', e = .returned (.slice a' (n + 1) c') ∧ OwnX w' w.heap.size 3 1 (.slice a' (n + 1) c') (n + 1) ys ∧ Below w.heap.size w w'
theorem below_grown0 {w w' : World} (hg : w.grownBy w' none) : Below w.heap.size w w' := below_grownX (v := .slice none 0 0) (Below.refl _ _) hg (Nat.le_refl _) (fun k hk => by simp [Value.ownBlock] at hk)

set_option maxHeartbeats 2000000 in
theorem insI_grow (i n vb vc g : Nat) (cur : Array Value) (xs news : List Value) (w : World) (hin : i < n) (hb : n ≤ 8796093022206) (hg : w.heap[g]? = some (.cells cur 3 (0, 0))) (hcs : n * 1 ≤ cur.size) (htk : cur.toList.take (n * 1) = xs) (hx1 : ∀ u ∈ xs, u.oneCell' = true)
    (hl : news.length = 1) (hv : w.heap[vb]? = some (.cells news.toArray 3 (0, 0))) (h1 : ∀ u ∈ news, u.oneCell' = true) :
    Calls Try.prog 45 #[.slice (some ⟨g, 0, none⟩) n n, .int .i64 i, .slice (some ⟨vb, 0, none⟩) 1 vc] w fun e w' =>
      InsRet w n (xs.take (i * 1) ++ news ++ xs.drop (i * 1)) e w' := by
  obtain ⟨i0, hi, hz0, hz1, hz2⟩ := info_parts info_i64
  have hgl := lt_of_block hg
  have hvl := lt_of_block hv
  have hxl : xs.length = n * 1 := by rw [← htk, List.length_take, Array.length_toList]; omega
  have hxa : ∀ j u, xs[j]? = some u → w.cell? ⟨g, j, none⟩ = some u := fun j u hj => by
    have hj2 : j < n * 1 := by rw [← hxl]; exact (List.getElem?_eq_some_iff.1 hj).1
    rw [← htk, List.getElem?_take, if_pos hj2] at hj
    rw [cell_of_row w g j cur 3 (0, 0) hg]
    simpa using hj
  have hdl : (xs.drop (i * 1)).length = (n - i) * 1 := by rw [List.length_drop, hxl, Nat.sub_mul]
  have hal : (xs.take (i * 1)).length = i * 1 := by rw [List.length_take, hxl]; omega
  have hge := grownCap_ge w (i + (n + 1 - i)) n 3
  have hcm : grownCap w (i + (n + 1 - i)) n 3 ≤ maxLen := grownCap_le_maxLen w _ n _ (by unfold maxLen; omega)
  have ei : i + (n + 1 - i) = n + 1 := by omega
  have eint : ((n : Int) + 1 - (i : Int)) = ((n + 1 - i : Nat) : Int) := by omega
  have hrun := fun ty =>
    run_append_zerosG (P := Try.prog) w 22 3 ty 3 i0 (.int .i64 0) .i64 .i64 Try.underlying22 Try.underlying3 hi hz0 ⟨g, 0, none⟩ i n (n + 1 - i) (xs.take (i * 1)) (by rw [hal, hz1]) (fun j u hj => by rw [Addr.add_lit, Nat.zero_add]; rw [List.getElem?_take] at hj; split at hj; exact hxa _ _ hj; cases hj) (by omega) (by omega) (by omega) (by unfold maxLen; omega) (by rw [hz2]; omega)
  simp only [ei] at hrun
  rw [ei] at hge hcm
  obtain ⟨cap, hcap⟩ : ∃ cap, cap = grownCap w (n + 1) n 3 := ⟨_, rfl⟩
  simp only [← hcap] at hrun
  rw [← hcap] at hge hcm
  obtain ⟨cur0, hcur0⟩ : ∃ cur0 : Array Value, cur0 = (xs.take (i * 1)).toArray ++ Builtin.zeroCells (Value.int .i64 0).cells (n + 1 - i) ++ Builtin.zeroCells (Value.int .i64 0).cells (cap - (n + 1)) := ⟨_, rfl⟩
  simp only [← hcur0] at hrun
  have hs0 : cur0.size = cap * 1 := by
    rw [hcur0]; simp only [Array.size_append, List.size_toArray, size_zeroCells, hal]; simp [Value.cells]; omega
  have htk0 : cur0.toList.take (i * 1) = xs.take (i * 1) := by
    rw [hcur0]; simp only [Array.toList_append, List.append_assoc]; rw [← hal]; simp
  obtain ⟨W, hW⟩ : ∃ W, W = w.drew.alloc (.cells cur0 3) := ⟨_, rfl⟩
  simp only [← hW] at hrun
  have hWg : W.heap[g]? = some (.cells cur 3 (0, 0)) := by rw [hW]; exact (heap_alloc_old w.drew _ hgl).trans hg
  have hWv : W.heap[vb]? = some (.cells news.toArray 3 (0, 0)) := by rw [hW]; exact (heap_alloc_old w.drew _ hvl).trans hv
  have hWn : W.heap[w.heap.size]? = some (.cells cur0 3 (0, 0)) := by rw [hW]; exact heap_alloc_new w.drew _
  obtain ⟨cur1, hcur1⟩ : ∃ cur1 : Array Value, cur1 = (cur0.toList.take (i * 1) ++ news ++ cur0.toList.drop (i * 1 + news.length)).toArray := ⟨_, rfl⟩
  have hs1 : cur1.size = cap * 1 := by
    rw [hcur1]; simp only [List.size_toArray, List.length_append, List.length_take, List.length_drop, Array.length_toList, hs0, hl]; omega
  have hc1 : ∀ ty dc sc, (Builtin.copy_ #[22, 22] ty #[.slice (some ⟨w.heap.size, i * 1, none⟩) (n + 1 - i) dc, .slice (some ⟨vb, 0, none⟩) 1 sc]).run Try.prog W = .ok (goInt (1 : Nat)) (W.setRow w.heap.size cur1) := fun ty dc sc => by
    rw [hcur1]
    exact run_copy_rowS W _ _ ty 3 i0 hi 1 hz1 w.heap.size (i * 1) (n + 1 - i) dc ⟨vb, 0, none⟩ 1 sc cur0 3 news 1 Try.underlying22 hWn (by simp only [Nat.min_def]; split <;> omega) hl
      (fun j v hj => by rw [Addr.add_lit, Nat.zero_add, cell_of_row _ vb j news.toArray 3 (0, 0) hWv]; simpa using hj) (by rw [hl, hs0]; omega) h1
  obtain ⟨cur2, hcur2⟩ : ∃ cur2 : Array Value, cur2 = (cur1.toList.take ((i + 1) * 1) ++ xs.drop (i * 1) ++ cur1.toList.drop ((i + 1) * 1 + (xs.drop (i * 1)).length)).toArray := ⟨_, rfl⟩
  have hg1 : (W.setRow w.heap.size cur1).drew.heap[w.heap.size]? = some (.cells cur1 3 (0, 0)) := setRow_heap W _ _ cur1 _ _ hWn
  have hg2 : (W.setRow w.heap.size cur1).drew.heap[g]? = some (.cells cur 3 (0, 0)) := (setRow_other W w.heap.size g cur1 (by omega)).trans hWg
  have hc2 : ∀ ty dc sc, (Builtin.copy_ #[22, 22] ty #[.slice (some ⟨w.heap.size, (i + 1) * 1, none⟩) (n - i) dc, .slice (some ⟨g, i * 1, none⟩) (n - i) sc]).run Try.prog (W.setRow w.heap.size cur1).drew = .ok (goInt (n - i : Nat)) ((W.setRow w.heap.size cur1).drew.setRow w.heap.size cur2) := fun ty dc sc => by
    rw [hcur2]
    exact run_copy_rowS (W.setRow w.heap.size cur1).drew _ _ ty 3 i0 hi 1 hz1 w.heap.size ((i + 1) * 1) (n - i) dc ⟨g, i * 1, none⟩ (n - i) sc cur1 3 (xs.drop (i * 1)) (n - i) Try.underlying22 hg1 (by simp only [Nat.min_def]; split <;> omega) hdl
      (fun j v hj => by
        rw [Addr.add_lit, cell_of_row _ g (i * 1 + j) cur 3 (0, 0) hg2]
        rw [List.getElem?_drop] at hj
        rw [← cell_of_row w g (i * 1 + j) cur 3 (0, 0) hg]
        exact hxa _ _ hj) (by rw [hdl, hs1]; omega) (fun v hv => hx1 v (List.mem_of_mem_drop hv))
  have hfin : (cur2.toList.take ((n + 1) * 1)) = xs.take (i * 1) ++ news ++ xs.drop (i * 1) := by
    rw [hcur2, hcur1]
    exact ins_list2 1 cur0.toList _ news _ n i hin (by rw [Array.length_toList, hs0]; omega) hl htk0 hdl
  have hs2 : cur2.size = cap * 1 := by
    rw [hcur2]; simp only [List.size_toArray, List.length_append, List.length_take, List.length_drop, Array.length_toList, hs1, hdl]; omega
  have hlen : (xs.take (i * 1) ++ news ++ xs.drop (i * 1)).length = (n + 1) * 1 := by
    rw [List.length_append, List.length_append, hal, hl, hdl]; omega
  have Hf := Box.mk hfin
  have Hs2 := Box.mk hs2
  have Hg1 := Box.mk hg1
  have Hlen := Box.mk hlen
  have HW := Box.mk hW
  have Hrun := Box.mk hrun
  clear hfin hs2 hcur1 hcur2 hs1 hg1 hg2 hdl hxa hxl htk hcs hlen hW hWg hWv hWn hs0 htk0 hcur0 hcap hal ei hrun hg hv
  unfold maxLen at hcm
  have k1 : ¬ ((i : Int) = (n : Int)) := by omega
  have k2 : (n : Int) < (n : Int) + 1 := by omega
  have k3 : (i : Int) < (n : Int) := by omega
  have k4 : ¬ (n = i) := by omega
  have k5 : ¬ (cap = i) := by omega
  simp only [Nat.mul_one] at hc1 hc2
  go_enter Try.func45, Try.ntmps45
  have hb0 := Below.refl w.heap.size w
  go_wp2_with (at_builtin; refine stop ?_)
  refine Stop.go ?_
  refine Lib.wpList_append_run _ rfl _ _ 22 3 rfl (.slice (some ⟨g, 0, none⟩) i n) (.int .i64 ((n + 1 - i : Nat) : Int)) rfl rfl (.slice (some ⟨w.heap.size, 0, none⟩) (n + 1) cap) W (Hrun.out _) ?_
  have hw1 : IntKind.i64.wrap ((i : Int) + 1) = (i : Int) + 1 := by rw [IntKind.wrap_i64]; omega
  have hb1 : (0 : Int) ≤ (i : Int) + 1 := by omega
  have htn : ((i : Int) + 1).toNat = i + 1 := by omega
  have hb2 : ¬ (cap = i + 1) := by omega
  have hb3 : (i : Int) + 1 ≤ (n : Int) + 1 := by omega
  have hb5 : (i : Int) ≤ (n : Int) + 1 := by omega
  have hb6 : n + 1 - (i + 1) = n - i := by omega
  go_wp2_with fail
  go_region
  go_wp2_with fail
  go_ret
  refine ⟨_, _, rfl, ⟨Hlen.out, .inr ⟨w.heap.size, cap, cur2, rfl, Nat.le_refl _, ?_, by omega, by unfold maxLen; omega, Hs2.out, Hf.out⟩⟩, ?_⟩
  · exact setRow_heap _ _ cur1 _ _ _ Hg1.out
  · have hsz : (W.setRow w.heap.size cur1).drew.heap.size = w.heap.size + 1 := by
      have : W.heap.size = w.heap.size + 1 := by rw [HW.out]; simp
      simp [World.setRow, this]
    refine below_grown0 ⟨by rw [HW.out]; rfl, by rw [HW.out]; rfl, by rw [HW.out]; rfl, by simp [World.setRow] at hsz ⊢; omega, fun k hkl _ => ?_⟩
    have hkg : k ≠ w.heap.size := by omega
    rw [setRow_other _ _ k _ hkg]
    refine (setRow_other _ _ k _ hkg).trans ?_
    rw [HW.out]
    exact heap_alloc_old w.drew _ hkl

set_option maxHeartbeats 1000000 in
theorem insI_end (n vb vc : Nat) (s : Option Addr) (xs news : List Value) (w : World) (hx : CellsAt w s xs) (hxl : xs.length = n * 1) (hnone : s = none → n = 0) (hl : news.length = 1 * 1) (hv : CellsAt w (some ⟨vb, 0, none⟩) news) (h1 : ∀ u ∈ news, u.oneCell' = true) (hb : n ≤ 1000000) :
    Calls Try.prog 45 #[.slice s n n, .int .i64 n, .slice (some ⟨vb, 0, none⟩) 1 vc] w fun e w' =>
      InsRet w n (xs ++ news) e w' := by
  obtain ⟨i0, hi, hz0, hz1, hz2⟩ := info_parts info_i64
  have holds : ∀ b, s = some b → ∀ j u, xs[j]? = some u → w.cell? (b.add j) = some u := fun b hb => by
    subst hb
    exact cellsAt_news hx
  have hnews := cellsAt_news hv
  have H_hx := Box.mk hx
  have H_hxl := Box.mk hxl
  have H_hnone := Box.mk hnone
  have H_hl := Box.mk hl
  have H_hv := Box.mk hv
  have H_holds := Box.mk holds
  have H_hnews := Box.mk hnews
  have H_h1 := Box.mk h1
  clear hx hxl hnone hl hv holds hnews h1
  go_enter Try.func45, Try.ntmps45
  have hb0 := Below.refl w.heap.size w
  go_wp2_with (at_builtin; refine stop ?_)
  refine Stop.go ?_
  refine wpList_append_grows w rfl _ _ 22 rfl 3 i0 (.int .i64 0) 1 8 Try.underlying22 hi hz0 hz1 hz2 rfl (by decide) s n n xs rfl (fun h => ⟨H_hnone.out h, H_hnone.out h⟩) H_hxl.out H_holds.out ⟨vb, 0, none⟩ 1 vc news rfl H_hl.out H_hnews.out H_h1.out (by omega) (by unfold maxLen; omega) (by omega) ?_
  intro v' w1 hown hg
  have ho : OwnX w1 w.heap.size 3 1 v' (n + 1) (xs ++ news) := hown
  obtain ⟨a', c', rfl, _, _⟩ := ho.cells
  clear hown
  go_wp2_with fail
  go_ret
  exact ⟨a', c', rfl, ho, below_grown0 hg⟩

/-- Insert into the owner's row, its capacity cut to its length. -/
theorem insI_any (i n c base vb vc : Nat) (s : Option Addr) (xs news : List Value) (w : World) (hin : i ≤ n) (hown : OwnX w base 3 1 (.slice s n c) n xs) (hx1 : ∀ u ∈ xs, u.oneCell' = true) (hl : news.length = 1) (hv : w.heap[vb]? = some (.cells news.toArray 3 (0, 0))) (h1 : ∀ u ∈ news, u.oneCell' = true) (hb : n ≤ 1000000) :
    Calls Try.prog 45 #[.slice s n n, .int .i64 i, .slice (some ⟨vb, 0, none⟩) 1 vc] w fun e w' =>
      InsRet w n (xs.take i ++ news ++ xs.drop i) e w' := by
  have hxl : xs.length = n * 1 := hown.1
  by_cases hi : i = n
  · subst hi
    have hcv : CellsAt w (some ⟨vb, 0, none⟩) news := .inr ⟨vb, 0, rfl, fun j u hj => by rw [Nat.zero_add, cell_of_row w vb j news.toArray 3 (0, 0) hv]; simpa using hj⟩
    have hnone : s = none → i = 0 := fun h => by
      subst h
      rcases hown.cellsAt with h0 | ⟨_, _, h0, _⟩
      · rw [h0] at hxl; simpa using hxl.symm
      · cases h0
    have := insI_end i vb vc s xs news w hown.cellsAt hxl hnone (by omega) hcv h1 hb
    rw [Nat.mul_one] at hxl
    rw [← hxl, List.take_length, List.drop_length, List.append_nil]
    rw [hxl]
    exact this
  · rcases hown.2 with ⟨e0, _⟩ | ⟨g, cap, cur, e0, hB, hg, hnc, hcm, hcs, htk⟩
    · cases e0; omega
    · cases e0
      have := insI_grow i n vb vc g cur xs news w (by omega) (by omega) hg (by rw [hcs]; omega) htk hx1 hl hv h1
      simpa only [Nat.mul_one] using this

end Go.Proofs.Ytnkbbfeaodppgaa
