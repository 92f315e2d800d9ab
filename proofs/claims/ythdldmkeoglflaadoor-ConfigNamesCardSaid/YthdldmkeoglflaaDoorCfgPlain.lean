/- Peers as plain data. -/
import Derived.Test.YthdldmkeoglflaaDoorMem3
import Derived.Sort.Walk0
import Derived.Lib.Bytealg
namespace Go.Proofs.YthdldmkeoglflaaDoor
set_option maxRecDepth 100000
open Go.RowKit
set_option linter.unusedSimpArgs false

structure Box (p : Prop) : Prop where
  out : p
abbrev Peers := List (ByteArray × Int)
/-- The i-th peer's name, and its public key. -/
def nm (ps : Peers) (i : Nat) : ByteArray := (ps[i]?.getD (ByteArray.empty, 0)).1
def pu (ps : Peers) (i : Nat) : Int := (ps[i]?.getD (ByteArray.empty, 0)).2
/-- The strings' order and sameness, as the model has them. -/
def sltB (a b : ByteArray) : Bool := Op.bytesLess a.toList b.toList
def seqB (a b : ByteArray) : Bool := a.toList == b.toList
def sleB (a b : ByteArray) : Bool := sltB a b || seqB a b
theorem toList_d (a : ByteArray) : a.toList = a.data.toList := by simp [ByteArray.toList_eq]
theorem seqB_iff {a b : ByteArray} : seqB a b = true ↔ a = b := by
  unfold seqB
  rw [toList_d, toList_d, beq_iff_eq]
  constructor
  · intro h
    cases a; cases b
    simp at h
    rw [h]
  · rintro rfl; rfl
theorem seqB_self (a : ByteArray) : seqB a a = true := seqB_iff.2 rfl
theorem sltB_iff {a b : ByteArray} : sltB a b = true ↔ a.data.toList < b.data.toList := by
  unfold sltB
  rw [bytesLess_eq, toList_d, toList_d, decide_eq_true_eq]
theorem sltB_irr (a : ByteArray) : sltB a a = false := by
  cases h : sltB a a
  · rfl
  · exact absurd (sltB_iff.1 h) (List.lt_irrefl _)
theorem sltB_trans {a b c : ByteArray} (h : sltB a b = true) (h' : sltB b c = true) : sltB a c = true :=
  sltB_iff.2 (List.lt_trans (sltB_iff.1 h) (sltB_iff.1 h'))
theorem sltB_tot {a b : ByteArray} (h : sltB a b = false) (h' : seqB a b = false) : sltB b a = true := by
  have h1 : ¬ a.data.toList < b.data.toList := fun x => by rw [sltB_iff.2 x] at h; cases h
  have h2 : a.data.toList ≠ b.data.toList := fun x => by
    have : a = b := by cases a; cases b; simp at x; rw [x]
    rw [seqB_iff.2 this] at h'; cases h'
  refine sltB_iff.2 ?_
  rcases Classical.em (b.data.toList < a.data.toList) with h3 | h3
  · exact h3
  · exact absurd (List.le_antisymm (List.not_lt.1 h3) (List.not_lt.1 h1)) h2
theorem sltB_asymm {a b : ByteArray} (h : sltB a b = true) : sltB b a = false := by
  cases h' : sltB b a
  · rfl
  · have := sltB_trans h h'; rw [sltB_irr] at this; cases this
/-- strings.Compare. -/
def cmpS (a b : ByteArray) : Int := Lib.compareBytes a.data.toList b.data.toList
theorem cmp_lists : ∀ (x y : List UInt8), Lib.compareBytes x y = if Op.bytesLess x y then -1 else if x == y then 0 else 1
  | [], [] => rfl
  | [], _ :: _ => rfl
  | _ :: _, [] => rfl
  | a :: x, b :: y => by
    have ih := cmp_lists x y
    unfold Lib.compareBytes Op.bytesLess
    by_cases h1 : a < b
    · simp [h1]
    · by_cases h2 : b < a
      · have h3 : ¬ (a = b) := by rintro rfl; exact h1 h2
        simp [h1, h2, h3]
      · obtain rfl : a = b := UInt8.le_antisymm (UInt8.not_lt.1 h2) (UInt8.not_lt.1 h1)
        simp [h1, ih]
theorem cmpS_eq (a b : ByteArray) : cmpS a b = if sltB a b then -1 else if seqB a b then 0 else 1 := by
  unfold cmpS sltB seqB
  rw [cmp_lists, toList_d, toList_d]
theorem cmpS_neg (a b : ByteArray) : cmpS a b < 0 ↔ sltB a b = true := by
  rw [cmpS_eq]; split
  · simp [*]
  · split <;> simp [*]
theorem cmpS_zero (a b : ByteArray) : cmpS a b = 0 ↔ a = b := by
  rw [cmpS_eq]; split
  · rename_i h
    simp
    rintro rfl
    rw [sltB_irr] at h; cases h
  · split
    · rename_i h; simp [seqB_iff.1 h]
    · rename_i h; simp; rintro rfl; exact h (seqB_self _)

theorem nm_cons (s : ByteArray × Int) (hs : Peers) (i : Nat) : nm (s :: hs) (i + 1) = nm hs i := by simp [nm]
theorem nm_cons0 (s : ByteArray × Int) (hs : Peers) : nm (s :: hs) 0 = s.1 := by simp [nm]
theorem pu_cons (s : ByteArray × Int) (hs : Peers) (i : Nat) : pu (s :: hs) (i + 1) = pu hs i := by simp [pu]
theorem pu_cons0 (s : ByteArray × Int) (hs : Peers) : pu (s :: hs) 0 = s.2 := by simp [pu]
theorem ps_at {ps : Peers} {i : Nat} (hi : i < ps.length) : ps[i] = (nm ps i, pu ps i) := by simp [nm, pu, hi]
theorem ps_mem {ps : Peers} {i : Nat} (hi : i < ps.length) : (nm ps i, pu ps i) ∈ ps := ps_at hi ▸ List.getElem_mem hi

/-- The names increase. -/
def Inc (ps : Peers) : Prop := ∀ i, 0 < i → i < ps.length → sltB (nm ps (i - 1)) (nm ps i) = true
theorem Inc.lt {ps : Peers} (h : Inc ps) : ∀ j i, i < j → j < ps.length → sltB (nm ps i) (nm ps j) = true := by
  intro j
  induction j with
  | zero => intro i hi; omega
  | succ j ih =>
    intro i hij hj
    have h1 := h (j + 1) (by omega) hj
    simp at h1
    by_cases he : i = j
    · subst he; exact h1
    · exact sltB_trans (ih i (by omega) (by omega)) h1
/-- The place of a name. -/
def lb (ps : Peers) (x : ByteArray) : Nat := ps.findIdx fun p => !sltB p.1 x
def hasN (ps : Peers) (x : ByteArray) : Bool := decide (lb ps x < ps.length) && seqB (nm ps (lb ps x)) x
theorem lb_le (ps : Peers) (x : ByteArray) : lb ps x ≤ ps.length := List.findIdx_le_length
theorem lb_lt {ps : Peers} {x : ByteArray} {i : Nat} (h : i < lb ps x) : sltB (nm ps i) x = true := by
  have hi : i < ps.length := Nat.lt_of_lt_of_le h (lb_le ps x)
  have := List.not_of_lt_findIdx h
  rw [ps_at hi] at this
  simpa using this
theorem lb_ge {ps : Peers} {x : ByteArray} (h : lb ps x < ps.length) : sltB (nm ps (lb ps x)) x = false := by
  have := List.findIdx_getElem (p := fun p : ByteArray × Int => !sltB p.1 x) (xs := ps) (w := h)
  have e := ps_at h
  unfold lb at e ⊢
  rw [e] at this
  simpa using this
theorem lb_iff {ps : Peers} (h : Inc ps) (x : ByteArray) (i : Nat) (hi : i < ps.length) : (sltB (nm ps i) x = true ↔ i < lb ps x) := by
  constructor
  · intro h1
    rcases Nat.lt_or_ge i (lb ps x) with h2 | h2
    · exact h2
    · have h3 := lb_ge (ps := ps) (x := x) (by omega)
      by_cases he : i = lb ps x
      · rw [he] at h1; rw [h1] at h3; cases h3
      · have := sltB_trans (h.lt i (lb ps x) (by omega) hi) h1
        rw [this] at h3; cases h3
  · exact lb_lt
theorem hasN_iff {ps : Peers} {x : ByteArray} : hasN ps x = true ↔ lb ps x < ps.length ∧ nm ps (lb ps x) = x := by
  unfold hasN
  rw [Bool.and_eq_true, decide_eq_true_eq, seqB_iff]
/-- Which place a search by name may call its own: ahead of it less, from it on not less. -/
theorem lb_char {ps : Peers} {x : ByteArray} {k : Nat} (hk : k ≤ ps.length) (h1 : ∀ i, i < k → sltB (nm ps i) x = true) (h2 : k < ps.length → sltB (nm ps k) x = false) : lb ps x = k := by
  rcases Nat.lt_trichotomy (lb ps x) k with h | h | h
  · have := h1 _ h; rw [lb_ge (by omega)] at this; cases this
  · exact h
  · have h3 := lb_lt h
    rw [h2 (Nat.lt_of_lt_of_le h (lb_le ps x))] at h3; cases h3

/-- Where a public key is: the first place; the peers' number: nowhere. -/
def pi (ps : Peers) (q : Int) : Nat := ps.findIdx fun p => p.2 == q
theorem pi_le (ps : Peers) (q : Int) : pi ps q ≤ ps.length := List.findIdx_le_length
theorem pi_lt {ps : Peers} {q : Int} {i : Nat} (h : i < pi ps q) : pu ps i ≠ q := by
  have hi : i < ps.length := Nat.lt_of_lt_of_le h (pi_le ps q)
  have := List.not_of_lt_findIdx h
  rw [ps_at hi] at this
  simpa using this
theorem pi_at {ps : Peers} {q : Int} (h : pi ps q < ps.length) : pu ps (pi ps q) = q := by
  have := List.findIdx_getElem (p := fun p : ByteArray × Int => p.2 == q) (xs := ps) (w := h)
  have e := ps_at h
  unfold pi at e ⊢
  rw [e] at this
  simpa using this
theorem pi_char {ps : Peers} {q : Int} {k : Nat} (hk : k ≤ ps.length) (h1 : ∀ i, i < k → pu ps i ≠ q) (h2 : k < ps.length → pu ps k = q) : pi ps q = k := by
  rcases Nat.lt_trichotomy (pi ps q) k with h | h | h
  · exact absurd (pi_at (by omega)) (h1 _ h)
  · exact h
  · exact absurd (h2 (Nat.lt_of_lt_of_le h (pi_le ps q))) (pi_lt h)
/-- braidref44.who: -1 is the own key. -/
def whoN (k : Int) (ps : Peers) (q : Int) : Int := if k = q then -1 else pi ps q

/-- The cells of peers. -/
def cel (hs : Peers) : List Value := hs.flatMap fun s => [.string s.1, .int .u32 s.2]
theorem cel_nil : cel [] = [] := rfl
theorem cel_cons (s : ByteArray × Int) (hs : Peers) : cel (s :: hs) = .string s.1 :: .int .u32 s.2 :: cel hs := rfl
theorem cel_append (xs ys : Peers) : cel (xs ++ ys) = cel xs ++ cel ys := List.flatMap_append
theorem cel_len : ∀ hs : Peers, (cel hs).length = hs.length * 2
  | [] => rfl
  | s :: hs => by rw [cel_cons]; simp [cel_len hs]; omega
theorem cel_take : ∀ (q : Peers) (i : Nat), (cel q).take (i * 2) = cel (q.take i)
  | [], i => by simp [cel_nil]
  | s :: q, 0 => by simp [cel_nil]
  | s :: q, i + 1 => by
    rw [cel_cons, show (i + 1) * 2 = i * 2 + 1 + 1 by omega, List.take_succ_cons, List.take_succ_cons, cel_take q i]; rfl
theorem cel_drop : ∀ (q : Peers) (i : Nat), (cel q).drop (i * 2) = cel (q.drop i)
  | [], i => by simp [cel_nil]
  | s :: q, 0 => by simp
  | s :: q, i + 1 => by
    rw [cel_cons, show (i + 1) * 2 = i * 2 + 1 + 1 by omega, List.drop_succ_cons, List.drop_succ_cons, cel_drop q i]; rfl
theorem cel_at : ∀ (hs : Peers) (i : Nat), i < hs.length → (cel hs)[i * 2]? = some (.string (nm hs i)) ∧ (cel hs)[i * 2 + 1]? = some (.int .u32 (pu hs i))
  | [], i, h => by simp at h
  | s :: hs, 0, h => by simp [cel_cons, nm, pu]
  | s :: hs, i + 1, h => by
    have ih := cel_at hs i (by simpa using h)
    rw [cel_cons, show (i + 1) * 2 = i * 2 + 1 + 1 by omega]
    simpa [nm, pu] using ih
theorem cel_one : ∀ (hs : Peers), ∀ u ∈ cel hs, u.oneCell' = true
  | [], u, h => by simp [cel_nil] at h
  | s :: hs, u, h => by
    rw [cel_cons] at h
    rcases List.mem_cons.1 h with rfl | h
    · rfl
    · rcases List.mem_cons.1 h with rfl | h
      · rfl
      · exact cel_one hs u h
/-- The cells of peers, in the walk's spelling. -/
theorem CellsAt.peers {w : World} {a : Option Addr} {hs : Peers} (h : CellsAt w a (cel hs)) (hne : 0 < hs.length) :
    ∃ b o, a = some ⟨b, o, none⟩ ∧ b < w.heap.size ∧ b ≠ w.heap.size ∧ ∀ j, j < hs.length → w.cell? ⟨b, o + j * 2, none⟩ = some (.string (nm hs j)) ∧ w.cell? ⟨b, o + j * 2 + 1, none⟩ = some (.int .u32 (pu hs j)) := by
  rcases h with h | ⟨b, o, ha, h⟩
  · have := cel_len hs; rw [h] at this; simp at this; omega
  · have key : ∀ j, j < hs.length → w.cell? ⟨b, o + j * 2, none⟩ = some (.string (nm hs j)) ∧ w.cell? ⟨b, o + j * 2 + 1, none⟩ = some (.int .u32 (pu hs j)) := fun j hj => by
      have := cel_at hs j hj
      exact ⟨h _ _ this.1, by have h2 := h _ _ this.2; rwa [← Nat.add_assoc] at h2⟩
    have := World.block_lt_of_cell? _ _ (key 0 hne).1
    simp only at this
    exact ⟨b, o, ha, this, by omega, key⟩

end Go.Proofs.YthdldmkeoglflaaDoor
