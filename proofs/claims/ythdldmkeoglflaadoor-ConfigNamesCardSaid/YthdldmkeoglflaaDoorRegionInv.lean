/- A region that draws its order, by an invariant over what has come up: whatever the order, each operation is shown once. -/
import Derived.Test.YthdldmkeoglflaaDoorMem2
import Derived.Orders
namespace Go.Proofs.YthdldmkeoglflaaDoor
set_option maxRecDepth 100000
open Go.RowKit
set_option linter.unusedSimpArgs false
set_option linter.unusedVariables false

theorem count_set {p p' : Nat → Bool} {i : Nat} (h : ∀ j, p' j = true → p j = true) (hi : p i = true) (hi' : p' i = false) : ∀ L : List Nat, i ∈ L → L.countP p' < L.countP p
  | [], h0 => by simp at h0
  | x :: L, h0 => by
    have hle : L.countP p' ≤ L.countP p := List.countP_mono_left fun j _ hj => h j hj
    rw [List.countP_cons, List.countP_cons]
    by_cases hx : x = i
    · subst hx
      rw [hi, hi']
      simp; omega
    · have := count_set h hi hi' L (by rcases List.mem_cons.1 h0 with h1 | h1; exact absurd h1.symm hx; exact h1)
      have hx2 : (if p' x = true then 1 else 0) ≤ (if p x = true then 1 else 0) := by
        by_cases h1 : p' x = true
        · rw [if_pos h1, if_pos (h x h1)]; exact Nat.le_refl _
        · rw [if_neg h1]; exact Nat.zero_le _
      omega

section
variable {P : Program} {ops : Array Oper} {Q : Exit → Act → World → Prop} {md : Region.Mode} {I : Array Bool → Act → World → Prop}
def open_ (ops : Array Oper) (listed : Array Bool) : Nat := (List.range ops.size).countP fun i => !listed.getD i true
theorem ready_open {listed : Array Bool} {i : Nat} (h : i ∈ Region.ready md ops listed) : i < ops.size ∧ listed.getD i true = false := by
  have h1 := List.mem_filter.1 h
  have h2 := List.mem_range.1 h1.1
  have h3 := h1.2
  simp only [Bool.and_eq_true, Bool.not_eq_true'] at h3
  exact ⟨h2, h3.1⟩
theorem wpAny_inv (hstep : ∀ listed a w i, I listed a w → i ∈ Region.ready md ops listed → wpOp P ops Q i (I (listed.setIfInBounds i true)) a w)
    (hdone : ∀ listed a w, I listed a w → Region.ready md ops listed = [] → Q .normal a w) :
    ∀ (fuel : Nat) (listed : Array Bool) (a : Act) (w : World), I listed a w → open_ ops listed ≤ fuel → wpAny P md ops Q fuel listed a w
  | 0, listed, a, w, hI, hf => by
    have hr : Region.ready md ops listed = [] := by
      apply List.eq_nil_iff_forall_not_mem.2
      intro i hi
      obtain ⟨h1, h2⟩ := ready_open hi
      have : 0 < open_ ops listed := List.countP_pos_iff.2 ⟨i, List.mem_range.2 h1, by rw [h2]; rfl⟩
      omega
    exact ⟨hr, hdone _ _ _ hI hr⟩
  | fuel + 1, listed, a, w, hI, hf => by
    refine ⟨hdone _ _ _ hI, fun i hi => wpOp_mono (fun a w h => wpAny_inv hstep hdone fuel _ a w h ?_) (hstep _ _ _ i hI hi)⟩
    obtain ⟨h1, h2⟩ := ready_open hi
    have : open_ ops (listed.setIfInBounds i true) < open_ ops listed := by
      refine count_set (i := i) (fun j hj => ?_) (by rw [h2]; rfl) ?_ _ (List.mem_range.2 h1)
      · by_cases hij : i = j
        · subst hij; rw [h2]; rfl
        · simp only [Array.getD_eq_getD_getElem?, Array.getElem?_setIfInBounds, hij, if_false] at hj ⊢
          exact hj
      · by_cases hs : i < listed.size
        · simp [Array.getD_eq_getD_getElem?, Array.getElem?_setIfInBounds, hs]
        · exfalso
          simp [Array.getD_eq_getD_getElem?, Array.getElem?_eq_none (show listed.size ≤ i by omega)] at h2
    omega
/-- A region that draws, by an invariant. -/
theorem wp_region_inv {id : Nat} {a : Act} {w : World} (hm : P.follows .mixedOrders = true) (h0 : I (Array.replicate ops.size false) a w.drew)
    (hstep : ∀ listed a w i, I listed a w → i ∈ Region.ready .any ops listed → wpOp P ops Q i (I (listed.setIfInBounds i true)) a w)
    (hdone : ∀ listed a w, I listed a w → Region.ready .any ops listed = [] → Q .normal a w) : (Code.region id ops true).wp P Q a w := by
  refine wp_region_any hm (wpAny_inv hstep hdone ops.size _ _ _ h0 ?_)
  unfold open_
  exact Nat.le_trans List.countP_le_length (by simp)
end

end Go.Proofs.YthdldmkeoglflaaDoor
