/- The check that a region which draws may be walked in the text's order, reckoned in one pass: the kit's own check (Region.lexB) is too dear for the kernel beyond some 60 operations. -/
import Derived.Test.YtlilodfddojlhaaDoorMem4
namespace Go.Proofs.YtlilodfddojlhaaDoor
open Go.RowKit

def onsBelow (md : Region.Mode) : Nat → List Oper → Bool
  | _, [] => true
  | k, o :: r => (o.after.all fun e => !Region.binds md e || Nat.blt e.on k) && onsBelow md (k + 1) r
def pairsB (md : Region.Mode) (ops : Array Oper) : Nat → List Oper → Bool
  | _, [] => true
  | k, o :: r => (r.all fun oj => oj.after.any (fun e => Region.binds md e && e.on == k) || o.apart ops oj) && pairsB md ops (k + 1) r
theorem onsBelow_at {md : Region.Mode} : ∀ (l : List Oper) (k : Nat), onsBelow md k l = true → ∀ (i : Nat) (o : Oper), l[i]? = some o → (o.after.all fun e => !Region.binds md e || Nat.blt e.on (k + i)) = true
  | [], _, _, _, _, h => by simp at h
  | o :: r, k, h, 0, o', h' => by
    simp only [onsBelow, Bool.and_eq_true] at h
    simp at h'
    subst h'
    exact h.1
  | o :: r, k, h, i + 1, o', h' => by
    simp only [onsBelow, Bool.and_eq_true] at h
    have := onsBelow_at r (k + 1) h.2 i o' (by simpa using h')
    rwa [show k + (i + 1) = k + 1 + i from by omega]
theorem pairsB_at {md : Region.Mode} {ops : Array Oper} (o oj : Oper) (l : List Oper) : ∀ (k i j : Nat), pairsB md ops k l = true → i < j → l[i]? = some o → l[j]? = some oj → (oj.after.any (fun e => Region.binds md e && e.on == k + i) || o.apart ops oj) = true := by
  induction l with
  | nil => intro k i j _ _ h _; simp at h
  | cons x r ih =>
    intro k i j h hij hi hj
    simp only [pairsB, Bool.and_eq_true, List.all_eq_true] at h
    obtain ⟨j', rfl⟩ : ∃ j', j = j' + 1 := ⟨j - 1, by omega⟩
    rw [List.getElem?_cons_succ] at hj
    cases i with
    | zero =>
      rw [List.getElem?_cons_zero] at hi
      cases hi
      exact h.1 oj (List.mem_of_getElem? hj)
    | succ i =>
      rw [List.getElem?_cons_succ] at hi
      have := ih (k + 1) i j' h.2 (by omega) hi hj
      rwa [show k + (i + 1) = k + 1 + i from by omega]
theorem lexFrom_of {md : Region.Mode} {l : List Oper} (h2 : onsBelow md 0 l = true) (h3 : pairsB md l.toArray 0 l = true) :
    ∀ (fuel k : Nat) (listed : Array Bool), fuel + k = l.length → (∀ j, j < l.length → listed[j]? = some (decide (j < k))) → Region.lexFrom md l.toArray fuel k listed = true
  | 0, k, listed, hk, hL => by
    simp only [Region.lexFrom, List.isEmpty_iff]
    apply List.eq_nil_iff_forall_not_mem.2
    intro i hi
    have h1 := List.mem_filter.1 hi
    have h4 := List.mem_range.1 h1.1
    have h5 := h1.2
    simp only [List.size_toArray] at h4
    simp only [Array.getD_eq_getD_getElem?, hL i h4, Option.getD_some, Bool.and_eq_true, Bool.not_eq_true', decide_eq_false_iff_not] at h5
    omega
  | fuel + 1, k, listed, hk, hL => by
    have hkl : k < l.length := by omega
    obtain ⟨o, ho⟩ : ∃ o, l[k]? = some o := ⟨l[k], List.getElem?_eq_getElem hkl⟩
    have ho' : l.toArray[k]? = some o := by simpa using ho
    simp only [Region.lexFrom, Bool.and_eq_true]
    refine ⟨⟨?_, ?_⟩, lexFrom_of h2 h3 fuel (k + 1) _ (by omega) fun j hj => ?_⟩
    · simp only [List.contains_iff_mem]
      refine List.mem_filter.2 ⟨List.mem_range.2 (by simpa using hkl), ?_⟩
      have ha := onsBelow_at l 0 h2 k o ho
      rw [Nat.zero_add] at ha
      simp only [Array.getD_eq_getD_getElem?, hL k hkl, Option.getD_some, ho', Option.map_some, Bool.and_eq_true, Bool.not_eq_true', decide_eq_false_iff_not]
      refine ⟨Nat.lt_irrefl k, ?_⟩
      rw [Array.all_eq_true_iff_forall_mem] at ha ⊢
      intro e he
      have hb := ha e he
      simp only [Bool.or_eq_true] at hb ⊢
      rcases hb with hb | hb
      · exact .inl hb
      · right
        have hlt : e.on < k := Nat.le_of_ble_eq_true hb
        rw [hL e.on (by omega)]
        simpa using hlt
    · simp only [Region.free, ho', List.all_eq_true, List.mem_range, List.size_toArray]
      intro j hj
      obtain ⟨oj, hoj⟩ : ∃ oj, l[j]? = some oj := ⟨l[j], List.getElem?_eq_getElem hj⟩
      have hoj' : l.toArray[j]? = some oj := by simpa using hoj
      simp only [hoj', Array.getD_eq_getD_getElem?, hL j hj, Option.getD_some]
      rcases Nat.lt_trichotomy j k with h | h | h
      · simp [h]
      · simp [h]
      · have hp := pairsB_at o oj l 0 k j h3 h ho hoj
        rw [Nat.zero_add] at hp
        rw [Bool.or_eq_true]
        exact .inr hp
    · rw [Array.getElem?_setIfInBounds]
      have hsz : j < listed.size := by
        have := hL j hj
        exact (Array.getElem?_eq_some_iff.1 this).1
      by_cases hjk : k = j
      · subst hjk
        rw [if_pos rfl, if_pos hsz]
        simp
      · rw [if_neg hjk, hL j hj]
        congr 1
        simp only [decide_eq_decide]
        omega
theorem lexB_of {md : Region.Mode} {l : List Oper} (h : (Region.noSelect l.toArray && (onsBelow md 0 l && pairsB md l.toArray 0 l)) = true) : Region.lexB md l.toArray = true := by
  simp only [Bool.and_eq_true] at h
  simp only [Region.lexB, Bool.and_eq_true]
  refine ⟨h.1, lexFrom_of h.2.1 h.2.2 _ 0 _ (by simp) fun j hj => ?_⟩
  rw [Array.getElem?_replicate]
  simp
  exact hj

end Go.Proofs.YtlilodfddojlhaaDoor
