/- slices.Clone, Grow, Concat at []byte; append of zeros. -/
import Derived.Test.YtfabcdpmnbeflaaDoorBlk
import Derived.Test.YtfabcdpmnbeflaaDoorCup
import Derived.Test.YtfabcdpmnbeflaaDoorIns
import Derived.Test.YtfabcdpmnbeflaaDoorRows
namespace Go.Proofs.YtfabcdpmnbeflaaDoor
set_option maxRecDepth 100000
set_option linter.unusedSimpArgs false
set_option linter.unusedVariables false
set_option linter.unnecessarySimpa false
open Go.RowKit

theorem info_u8 : (Tryd.prog.info? 5).map (fun i => (i.zero, i.size, i.bytes)) = some (some (.int .u8 0), 1, 1) := by kernel_rfl

set_option maxHeartbeats 400000 in
theorem clone8_any (a : Option Addr) (n c : Nat) (xs : List Int) (w : World) (hn : n = xs.length) (hc : CellsAt w a (xs.map (Value.int .u8))) (hb : xs.length ≤ 140737488355327) :
    Calls Tryd.prog 74 #[.slice a n c] w fun e w' =>
      ∃ a' c', e = .returned (.slice a' n c') ∧ OwnX w' w.heap.size 5 1 (.slice a' n c') n (xs.map (Value.int .u8)) ∧ Below w.heap.size w w' := by
  have hq := fun (w : World) => Lib.run_eql_slice_nil w 39 5 a n c 0 0 Tryd.underlying39
  obtain ⟨i0, hi, hz0, hz1, hz2⟩ := info_parts info_u8
  cases a with
  | none =>
    have hx : xs = [] := by
      rcases hc with h | ⟨b, o, h, _⟩
      · simpa using h
      · cases h
    subst hx
    simp only [List.length_nil] at hn
    subst hn
    go_enter Tryd.func74, Tryd.ntmps74
    have hb0 := Below.refl w.heap.size w
    go_wp2_with fail
    go_ret
    exact ⟨_, _, rfl, OwnX.nil _ _ _ _, hb0⟩
  | some ad =>
    have Hc := hid hc
    clear hc
    subst hn
    go_enter Tryd.func74, Tryd.ntmps74
    have hb0 := Below.refl w.heap.size w
    go_wp2_with (at_builtin; refine stop ?_)
    refine Stop.go ?_
    refine wpList_append_x _ rfl _ _ 39 rfl w.heap.size 5 i0 (.int .u8 0) 1 1 Tryd.underlying39 hi hz0 hz1 hz2 rfl (by decide) _ 0 [] rfl (OwnX.made _ [] _ _ 0 _ (Nat.le_refl _) (by simp [maxLen]) rfl) (some ad) xs.length c (xs.map (Value.int .u8)) rfl (by simp) (Hc.out.alloc _) (ints_oneCell _ _) (by unfold maxLen; omega) (by omega) (by simp) ?_
    intro a' c' w1 hown hg _
    rw [Nat.zero_add, List.nil_append] at hown
    go_wp2_with fail
    go_ret
    exact ⟨_, _, rfl, hown, below_grownX (hb0.alloc (Nat.le_refl _) _) hg (by simp) (fun k hk => ((OwnX.made w [] _ 0 0 1 (Nat.le_refl _) (by simp [maxLen]) rfl).lt k hk).1)⟩

theorem zeroCells_one (z : Value) (n : Nat) : Builtin.zeroCells #[z] n = (List.replicate n z).toArray := by
  apply Array.ext
  · simp [Builtin.zeroCells]
  · intro i h1 h2
    simp [Builtin.zeroCells, Nat.mod_one]
section
variable {P : Program}
/-- append of zeros onto nil, or onto a full row of the call's own; elements of one cell. -/
theorem own_zeros (w : World) (base : Nat) (t tn ty e : TypeId) (i : TypeInfo) (z : Value) (k kn : IntKind) (bytes : Nat) (ht : P.underlying t = some (.slice e)) (htn : P.underlying tn = some (.int kn)) (hi : P.info? e = some i) (hz : i.zero = some z) (hsize : i.size = 1) (hby : i.bytes = bytes) (hzc : z.cells = #[z])
    (a : Option Addr) (m n : Nat) (xs : List Value) (hown : OwnX w base e 1 (.slice a m m) m xs) (hbase : base ≤ w.heap.size) (h63 : m + n ≤ maxLen) (h48 : (m + n) * bytes ≤ 140737488355328) :
    ∃ a' c' w', (Builtin.append_ #[t, tn] ty #[.slice a m m, .int k n]).run P w = .ok (.slice a' (m + n) c') w' ∧ OwnX w' base e 1 (.slice a' (m + n) c') (m + n) (xs ++ List.replicate n z) ∧ Below base w w' := by
  have hml := h63
  unfold maxLen at hml
  have hw : IntKind.i64.wrap (n : Int) = n := by rw [IntKind.wrap_i64]; omega
  by_cases hn : n = 0
  · subst hn
    refine ⟨a, m, w, ?_, by simpa using hown, Below.refl _ _⟩
    have hw0 : IntKind.i64.wrap 0 = 0 := by rw [IntKind.wrap_i64]; rfl
    cases a <;> simp [Builtin.append_, run_underlying ht, run_underlying htn, sizeOf, typeInfo, zeroValue, hi, hz, asInt, asIntOf, hw0, Builtin.firstCells, loadCells, loadCellsFrom, storeCells, Builtin.zeroCells]
  · have hsp : 0 < i.size := by omega
    have hb1 : Below base w w.drew := Below.drew (Below.refl _ _)
    have key : ∀ (cs : List Value) (C : Nat), cs.length = m → m + n ≤ C → C ≤ maxLen → xs = cs →
        OwnX (w.drew.alloc (.cells (cs.toArray ++ Builtin.zeroCells z.cells n ++ Builtin.zeroCells z.cells (C - (m + n))) e)) base e 1 (.slice (some ⟨w.heap.size, 0, none⟩) (m + n) C) (m + n) (xs ++ List.replicate n z) := by
      intro cs C hcl hC hCm hxs
      subst hxs
      rw [hzc, zeroCells_one, zeroCells_one]
      refine ⟨by simp [hcl], .inr ⟨w.heap.size, C, _, rfl, hbase, heap_alloc_new w.drew _, hC, hCm, by simp [hcl]; omega, ?_⟩⟩
      have : (xs ++ List.replicate n z).length = (m + n) * 1 := by simp [hcl]
      rw [← this, Array.toList_append, Array.toList_append]
      exact List.take_left
    obtain ⟨C, hCe⟩ : ∃ C, C = grownCap w (m + n) m e := ⟨_, rfl⟩
    have hC1 : m + n ≤ C := hCe ▸ grownCap_ge w _ _ _
    have hC2 : C ≤ maxLen := hCe ▸ grownCap_le_maxLen w _ _ _ h63
    have hlx := hown.len
    rw [Nat.mul_one] at hlx
    rcases a with _ | ad
    · have hm0 : m = 0 := by
        rcases hown.2 with ⟨h1, h2⟩ | ⟨g, cap, cur, h1, _⟩
        · exact h2
        · cases h1
      have hx0 : xs = [] := List.eq_nil_of_length_eq_zero (by omega)
      have h1 := key [] C (by simp; omega) hC1 hC2 hx0
      refine ⟨_, C, _, ?_, h1, hb1.alloc hbase _⟩
      rw [hCe]
      subst hm0
      simp only [Nat.zero_add] at h48 ⊢
      have h2 := Lib.run_append_nil_zeros (P := P) w t tn ty e i z k kn ht htn hi hz n (by omega) hsp (by omega) (by rw [hby]; omega)
      rw [h2]
      simp
    · have hs := cellsAt_news hown.cellsAt
      refine ⟨_, C, _, ?_, key xs C hlx hC1 hC2 rfl, hb1.alloc hbase _⟩
      rw [hCe]
      exact run_append_zerosG w t tn ty e i z k kn ht htn hi hz ad m m n xs (by rw [hlx, hsize, Nat.mul_one]) hs (by omega) hsp (by omega) h63 (by rw [hby]; exact h48)
end

set_option maxRecDepth 100000 in
/-- slices.Grow(nil, n): an empty row with room. -/
theorem grow8_any (n : Nat) (w : World) (hb : n ≤ 140737488355327) :
    Calls Tryd.prog 66 #[.slice none 0 0, .int .i64 n] w fun e w' =>
      ∃ a' c', e = .returned (.slice a' 0 c') ∧ OwnX w' w.heap.size 5 1 (.slice a' 0 c') 0 [] ∧ Below w.heap.size w w' := by
  obtain ⟨i0, hi, hz0, hz1, hz2⟩ := info_parts info_u8
  by_cases h0 : n = 0
  · subst h0
    go_enter Tryd.func66, Tryd.ntmps66
    have hb0 := Below.refl w.heap.size w
    go_wp2_with fail
    go_ret
    exact ⟨_, _, rfl, OwnX.nil _ _ _ _, hb0⟩
  · have hp : (0 : Int) < (n : Int) := by omega
    obtain ⟨a', c', w1, hr, hown, hbw⟩ := own_zeros (P := Tryd.prog) w w.heap.size 39 3 39 5 i0 (.int .u8 0) .i64 .i64 1 Tryd.underlying39 Tryd.underlying3 hi hz0 hz1 hz2 rfl none 0 n [] (OwnX.nil _ _ _ _) (Nat.le_refl _) (by unfold maxLen; omega) (by omega)
    simp only [Nat.zero_add, List.nil_append] at hr hown
    have hown0 : OwnX w1 w.heap.size 5 1 (.slice a' 0 c') 0 [] := by
      refine ⟨rfl, ?_⟩
      rcases hown.2 with ⟨h1, h2⟩ | ⟨g, cap, cur, h1, h2, h3, h4, h5, h6, h7⟩
      · exact absurd h2 h0
      · cases h1
        exact .inr ⟨g, _, cur, rfl, h2, h3, Nat.zero_le _, h5, h6, by simp⟩
    obtain ⟨_, _, hv, hnc, _⟩ := hown.cells
    cases hv
    have hnc' : (n : Int) ≤ (c' : Int) := by omega
    have hnc0 : (0 : Int) ≤ (c' : Int) := by omega
    have H_h0 := hid h0
    have H_hown := hid hown
    have H_hown0 := hid hown0
    clear h0 hown hown0
    go_enter Tryd.func66, Tryd.ntmps66
    have hb0 := Below.refl w.heap.size w
    go_wp2_with (at_builtin; refine stop ?_)
    refine Stop.go ?_
    refine Lib.wpList_append_run _ rfl _ _ _ _ rfl _ _ rfl rfl _ _ hr ?_
    go_wp2_with fail
    go_ret
    exact ⟨_, _, rfl, H_hown0.out, hbw⟩

end Go.Proofs.YtfabcdpmnbeflaaDoor
