/- The reference's words of a block, as plain data; its constants. -/
import Derived.Test.YtfabcdpmnbeflaaDoorDigFeed
import Derived.Test.YtfabcdpmnbeflaaDoorAppK
import Derived.Deep.RegionHeld3
namespace Go.Proofs.YtfabcdpmnbeflaaDoor
set_option maxRecDepth 100000
set_option linter.unusedSimpArgs false
set_option linter.unusedVariables false
set_option linter.unnecessarySimpa false
open Go.RowKit

theorem info_u32 : (Tryd.prog.info? 92).map (fun i => (i.zero, i.size, i.bytes)) = some (some (.int .u32 0), 1, 4) := by kernel_rfl
/-- The word at place t of a block. -/
def wdAt (bs : List Int) (t : Nat) : Int := ((bs[4 * t]?.getD 0 * 256 + bs[4 * t + 1]?.getD 0) * 256 + bs[4 * t + 2]?.getD 0) * 256 + bs[4 * t + 3]?.getD 0
def wds (bs : List Int) (k : Nat) : List Int := (List.range k).map (wdAt bs)
def wdx (bs : List Int) : Nat → List Int
  | 0 => wds bs 16
  | k + 1 => wdx bs k ++ [arwNext (wdx bs k) (16 + k)]
theorem Bytes8.at {l : List Int} (h : Bytes8 l) (j : Nat) : 0 ≤ l[j]?.getD 0 ∧ l[j]?.getD 0 < 256 := by
  by_cases hj : j < l.length
  · rw [List.getElem?_eq_getElem hj]; exact h _ (List.getElem_mem hj)
  · rw [List.getElem?_eq_none (by omega)]; simp
theorem cellsAt_newL (w : World) (cs : List Value) (t : TypeId) {a : Array Value} (h : a = cs.toArray) : CellsAt (w.alloc (.cells a t)) (some ⟨w.heap.size, 0, none⟩) cs := by
  subst h
  have := Blk.new w w.heap.size cs t rfl
  exact .inr ⟨_, _, rfl, fun j u hj => by rw [Nat.zero_add]; exact this.cell hj⟩
theorem wdW_eq (x0 x1 x2 x3 : Int) (h0 : 0 ≤ x0) (h0' : x0 < 256) (h1 : 0 ≤ x1) (h1' : x1 < 256) (h2 : 0 ≤ x2) (h2' : x2 < 256) (h3 : 0 ≤ x3) (h3' : x3 < 256) : (IntKind.u32.wrap (IntKind.u32.wrap (IntKind.u32.wrap (IntKind.u32.wrap (IntKind.u32.wrap (IntKind.u32.wrap (IntKind.u32.wrap x0 * 256) + IntKind.u32.wrap x1) * 256) + IntKind.u32.wrap x2) * 256) + IntKind.u32.wrap x3)) = ((x0 * 256 + x1) * 256 + x2) * 256 + x3 := by
  simp only [IntKind.wrap_u32]; omega
theorem ow_last {w : World} {base e size : Nat} {v : Value} {n : Nat} {l : List Value} {k : IntKind} {x y : Int} (h : OwnX w base e size v n (l ++ [.int k x])) (hx : x = y) : OwnX w base e size v n (l ++ [.int k y]) := hx ▸ h
theorem wds_len (bs : List Int) (k : Nat) : (wds bs k).length = k := by unfold wds; simp
theorem wdx_len (bs : List Int) : ∀ k, (wdx bs k).length = 16 + k
  | 0 => wds_len bs 16
  | k + 1 => by rw [wdx, List.length_append, wdx_len bs k]; rfl

theorem consts_any (w : World) :
    Calls Tryd.prog 79 #[] w fun e w' =>
      ∃ b, e = .returned (.slice (some ⟨b, 0, none⟩) 64 64) ∧ CellsAt w' (some ⟨b, 0, none⟩) (kcs.map (Value.int .u32)) ∧ Below w.heap.size w w' := by
  go_enter Tryd.func79, Tryd.ntmps79
  have hb0 := Below.refl w.heap.size w
  go_wp2_with fail
  go_ret
  refine ⟨w.heap.size, rfl, ?_, (by repeat' (first | with_reducible exact hb0 | with_reducible refine Below.drew ?_ | with_reducible refine below_drewN ?_ _ | with_reducible refine Below.alloc ?_ (by have := hb0.size; first | (simp; done) | (simp; omega) | omega) _ | with_reducible refine Below.setCell ?_ (by first | (simp; done) | (simp; omega) | omega) _))⟩
  exact cellsAt_newL _ _ _ rfl
theorem wdAt_rng {bs : List Int} (h : Bytes8 bs) (t : Nat) : 0 ≤ wdAt bs t ∧ wdAt bs t < 4294967296 := by
  unfold wdAt
  have h0 := h.at (4 * t)
  have h1 := h.at (4 * t + 1)
  have h2 := h.at (4 * t + 2)
  have h3 := h.at (4 * t + 3)
  omega
theorem wdx_rng {bs : List Int} (h : Bytes8 bs) : ∀ k, Rng32 (wdx bs k)
  | 0 => fun x hx => by
    obtain ⟨t, _, rfl⟩ := List.mem_map.1 hx
    exact wdAt_rng h t
  | k + 1 => fun x hx => by
    rcases List.mem_append.1 hx with h1 | h1
    · exact wdx_rng h k x h1
    · rw [List.mem_singleton.1 h1]; exact arwNext_rng _ _

end Go.Proofs.YtfabcdpmnbeflaaDoor
