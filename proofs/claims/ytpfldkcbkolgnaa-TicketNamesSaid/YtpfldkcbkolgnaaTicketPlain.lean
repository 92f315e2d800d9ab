/- A desk as plain data, and what the operations do. -/
import Derived.Test.YtpfldkcbkolgnaaMem3
namespace Go.Proofs.Ytpfldkcbkolgnaa
open Go.RowKit
set_option linter.unusedSimpArgs false

abbrev Slips := List (Int × Int)
/-- The i-th slip's ticket, and what it bears. -/
def tg (hs : Slips) (i : Nat) : Int := (hs[i]?.getD (0, 0)).1
def wg (hs : Slips) (i : Nat) : Int := (hs[i]?.getD (0, 0)).2
/-- How many slips are held besides that of the ticket `o`. -/
def besides (o : Int) (hs : Slips) : Nat := (hs.filter fun s => s.1 != o).length
/-- The i-th slip is in its place. -/
def slipOk (g o : Int) (hs : Slips) (i : Nat) : Bool := decide (o ≤ tg hs i) && (decide (tg hs i < g) && (i == 0 || decide (tg hs (i - 1) < tg hs i)))
/-- The numbers of a desk are valid. -/
def numsOk (g o r : Int) : Bool := decide (1 ≤ r) && (decide (r ≤ 16) && (decide (0 ≤ o) && (decide (o ≤ g) && decide (g ≤ 1000000000))))
/-- The error of a desk. -/
def dErr (g o r : Int) (hs : Slips) : Int := if numsOk g o r then (if (besides o hs : Int) ≤ r then (if (List.range hs.length).all (slipOk g o hs) then 0 else 8) else 8) else 8
theorem dErr_cases (g o r : Int) (hs : Slips) : dErr g o r hs = 0 ∨ dErr g o r hs = 8 := by
  unfold dErr; (repeat' split) <;> simp
/-- What holds of a valid desk. -/
structure DV (g o r : Int) (hs : Slips) : Prop where
  r1 : 1 ≤ r
  r2 : r ≤ 16
  o1 : 0 ≤ o
  o2 : o ≤ g
  g1 : g ≤ 1000000000
  room : (besides o hs : Int) ≤ r
  nth : ∀ i, i < hs.length → o ≤ tg hs i ∧ tg hs i < g
  inc : ∀ i, 0 < i → i < hs.length → tg hs (i - 1) < tg hs i
theorem DV.of {g o r : Int} {hs : Slips} (h : dErr g o r hs = 0) : DV g o r hs := by
  unfold dErr at h
  split at h <;> try (exact absurd h (by omega))
  split at h <;> try (exact absurd h (by omega))
  split at h <;> try (exact absurd h (by omega))
  rename_i h1 h2 h3
  simp [numsOk] at h1
  have h4 := List.all_eq_true.1 h3
  refine ⟨h1.1, h1.2.1, h1.2.2.1, h1.2.2.2.1, h1.2.2.2.2, h2, fun i hi => ?_, fun i hi0 hi => ?_⟩
  · have := h4 i (List.mem_range.2 hi); simp [slipOk] at this; exact ⟨this.1, this.2.1⟩
  · have := h4 i (List.mem_range.2 hi); simp [slipOk] at this
    rcases this.2.2 with h | h
    · omega
    · exact h
theorem DV.err {g o r : Int} {hs : Slips} (h : DV g o r hs) : dErr g o r hs = 0 := by
  unfold dErr
  rw [if_pos (by simp [numsOk, h.r1, h.r2, h.o1, h.o2, h.g1]), if_pos h.room, if_pos]
  refine List.all_eq_true.2 fun i hi => ?_
  have hi := List.mem_range.1 hi
  simp only [slipOk, Bool.and_eq_true, decide_eq_true_eq, Bool.or_eq_true, beq_iff_eq]
  refine ⟨(h.nth i hi).1, (h.nth i hi).2, ?_⟩
  by_cases h0 : i = 0
  · exact .inl h0
  · exact .inr (h.inc i (by omega) hi)
theorem dErr_zero {g o r : Int} {hs : Slips} : dErr g o r hs = 0 ↔ DV g o r hs := ⟨DV.of, DV.err⟩
theorem dErr_bad {g o r : Int} {hs : Slips} (h : ¬ DV g o r hs) : dErr g o r hs = 8 := (dErr_cases g o r hs).resolve_left fun h0 => h (DV.of h0)
theorem tg_lt {hs : Slips} (h : ∀ i, 0 < i → i < hs.length → tg hs (i - 1) < tg hs i) : ∀ j i, i < j → j < hs.length → tg hs i < tg hs j := by
  intro j
  induction j with
  | zero => intro i hi; omega
  | succ j ih =>
    intro i hij hj
    have h1 := h (j + 1) (by omega) hj
    simp at h1
    by_cases he : i = j
    · subst he; exact h1
    · have := ih i (by omega) (by omega); omega
theorem tg_cons (s : Int × Int) (hs : Slips) (i : Nat) : tg (s :: hs) (i + 1) = tg hs i := by simp [tg]
theorem tg_cons0 (s : Int × Int) (hs : Slips) : tg (s :: hs) 0 = s.1 := by simp [tg]
/-- As the program counts those that are held besides. -/
def heldN (o : Int) (hs : Slips) : Nat := if 0 < hs.length ∧ tg hs 0 = o then hs.length - 1 else hs.length
theorem besides_all {o : Int} : ∀ {hs : Slips}, (∀ i, i < hs.length → o < tg hs i) → besides o hs = hs.length
  | [], _ => rfl
  | s :: hs, h => by
    have h0 := h 0 (by simp)
    rw [tg_cons0] at h0
    have ih := besides_all (o := o) (hs := hs) fun i hi => by have := h (i + 1) (by simpa using hi); rwa [tg_cons] at this
    unfold besides at ih ⊢
    rw [List.filter_cons, if_pos (by simp; omega)]
    simp [ih]
theorem held_besides {o : Int} {hs : Slips} (hn : ∀ i, i < hs.length → o ≤ tg hs i) (hi : ∀ i, 0 < i → i < hs.length → tg hs (i - 1) < tg hs i) : besides o hs = heldN o hs := by
  match hs with
  | [] => rfl
  | s :: hs =>
    have h0 := hn 0 (by simp)
    rw [tg_cons0] at h0
    have hr : besides o hs = hs.length := besides_all fun i hj => by
      have := tg_lt hi (i + 1) 0 (by omega) (by simpa using hj)
      rw [tg_cons, tg_cons0] at this; omega
    unfold heldN
    rw [tg_cons0]
    unfold besides at hr ⊢
    rw [List.filter_cons]
    by_cases he : s.1 = o
    · simp [he, hr]
    · simp [he, hr]
/-- The place of a ticket among increasing ones. -/
def lb (hs : Slips) (t : Int) : Nat := hs.countP fun s => decide (s.1 < t)
def hasT (hs : Slips) (t : Int) : Bool := hs.any fun s => s.1 == t
def insD (hs : Slips) (t w : Int) : Slips := hs.take (lb hs t) ++ (t, w) :: hs.drop (lb hs t)
def Inc (hs : Slips) : Prop := ∀ i, 0 < i → i < hs.length → tg hs (i - 1) < tg hs i
theorem Inc.tail {s : Int × Int} {hs : Slips} (h : Inc (s :: hs)) : Inc hs := fun i h0 hi => by
  have := h (i + 1) (by omega) (by simpa using hi)
  obtain ⟨j, rfl⟩ : ∃ j, i = j + 1 := ⟨i - 1, by omega⟩
  simpa [tg_cons] using this
theorem Inc.lt {hs : Slips} (h : Inc hs) : ∀ j i, i < j → j < hs.length → tg hs i < tg hs j := tg_lt h
theorem Inc.head {s : Int × Int} {hs : Slips} (h : Inc (s :: hs)) : ∀ i, i < hs.length → s.1 < tg hs i := fun i hi => by
  have := h.lt (i + 1) 0 (by omega) (by simpa using hi)
  rwa [tg_cons, tg_cons0] at this
theorem tg_mem {hs : Slips} {i : Nat} (hi : i < hs.length) : hs[i] ∈ hs ∧ hs[i].1 = tg hs i := ⟨List.getElem_mem hi, by simp [tg, hi]⟩
theorem lb_le (hs : Slips) (t : Int) : lb hs t ≤ hs.length := List.countP_le_length
theorem lb_iff : ∀ {hs : Slips}, Inc hs → ∀ (t : Int) (i : Nat), i < hs.length → (tg hs i < t ↔ i < lb hs t)
  | [], _, t, i, hi => by simp at hi
  | s :: hs, h, t, i, hi => by
    have ih := lb_iff h.tail t
    unfold lb at ih ⊢
    rw [List.countP_cons]
    by_cases hs0 : s.1 < t
    · match i with
      | 0 => rw [tg_cons0]; simp [hs0]
      | i + 1 => rw [tg_cons, ih i (by simpa using hi)]; simp [hs0]
    · have hz : hs.countP (fun s => decide (s.1 < t)) = 0 := by
        rw [List.countP_eq_zero]
        intro x hx
        obtain ⟨j, hj, rfl⟩ := List.getElem_of_mem hx
        have := h.head j hj
        have h2 := (tg_mem hj).2
        simp; omega
      rw [hz]
      match i with
      | 0 => rw [tg_cons0]; simp [hs0]
      | i + 1 =>
        have := h.head i (by simpa using hi)
        rw [tg_cons]; simp [hs0]; omega
theorem hasT_iff {hs : Slips} (h : Inc hs) (t : Int) : hasT hs t = true ↔ lb hs t < hs.length ∧ tg hs (lb hs t) = t := by
  unfold hasT
  rw [List.any_eq_true]
  constructor
  · rintro ⟨x, hx, he⟩
    obtain ⟨j, hj, rfl⟩ := List.getElem_of_mem hx
    have h2 := (tg_mem hj).2
    have he' : tg hs j = t := by simpa [h2] using he
    have h1 := lb_iff h t j hj
    have : lb hs t ≤ j := by omega
    by_cases hjj : lb hs t = j
    · rw [hjj]; exact ⟨hj, he'⟩
    · have h3 := h.lt j (lb hs t) (by omega) hj
      have h4 := (lb_iff h t (lb hs t) (by omega)).1 (by omega)
      omega
  · rintro ⟨hl, he⟩
    exact ⟨hs[lb hs t], List.getElem_mem hl, by rw [(tg_mem hl).2]; simp [he]⟩
/-- How many go out at once. -/
def run (o : Int) : Slips → Nat
  | [] => 0
  | s :: hs => if s.1 = o then run (o + 1) hs + 1 else 0
theorem run_le : ∀ (hs : Slips) (o : Int), run o hs ≤ hs.length
  | [], _ => Nat.le_refl _
  | s :: hs, o => by unfold run; split; have := run_le hs (o + 1); simp; omega; simp
theorem run_at : ∀ (hs : Slips) (o : Int) (i : Nat), i < run o hs → tg hs i = o + i
  | [], _, i, h => by simp [run] at h
  | s :: hs, o, i, h => by
    unfold run at h
    split at h
    · match i with
      | 0 => rw [tg_cons0]; simp; assumption
      | i + 1 => rw [tg_cons, run_at hs (o + 1) i (by omega)]; omega
    · omega
theorem run_stop : ∀ (hs : Slips) (o : Int), run o hs < hs.length → tg hs (run o hs) ≠ o + run o hs
  | [], _, h => by simp [run] at h
  | s :: hs, o, h => by
    unfold run at h ⊢
    split
    · rename_i he
      rw [if_pos he] at h
      rw [tg_cons]
      have := run_stop hs (o + 1) (by simpa using h)
      omega
    · rw [tg_cons0]; simpa using ‹_›
theorem run_char {hs : Slips} {o : Int} {n : Nat} (hn : n ≤ hs.length) (h : ∀ i, i < n → tg hs i = o + i) (h2 : n < hs.length → tg hs n ≠ o + n) : run o hs = n := by
  have h3 := run_le hs o
  rcases Nat.lt_trichotomy (run o hs) n with h4 | h4 | h4
  · exact absurd (h _ h4) (run_stop hs o (by omega))
  · exact h4
  · exact absurd (run_at hs o n h4) (h2 (by omega))

/-- The cells of slips. -/
def cel (hs : Slips) : List Value := hs.flatMap fun s => [.int .i64 s.1, .int .u64 s.2]
theorem cel_nil : cel [] = [] := rfl
theorem cel_cons (s : Int × Int) (hs : Slips) : cel (s :: hs) = .int .i64 s.1 :: .int .u64 s.2 :: cel hs := rfl
theorem cel_append (xs ys : Slips) : cel (xs ++ ys) = cel xs ++ cel ys := List.flatMap_append
theorem cel_len : ∀ hs : Slips, (cel hs).length = hs.length * 2
  | [] => rfl
  | s :: hs => by rw [cel_cons]; simp [cel_len hs]; omega
theorem cel_at : ∀ (hs : Slips) (i : Nat), i < hs.length → (cel hs)[i * 2]? = some (.int .i64 (tg hs i)) ∧ (cel hs)[i * 2 + 1]? = some (.int .u64 (wg hs i))
  | [], i, h => by simp at h
  | s :: hs, 0, h => by simp [cel_cons, tg, wg]
  | s :: hs, i + 1, h => by
    have ih := cel_at hs i (by simpa using h)
    rw [cel_cons, show (i + 1) * 2 = i * 2 + 1 + 1 by omega]
    simpa [tg, wg] using ih
theorem cel_one : ∀ (hs : Slips), ∀ u ∈ cel hs, u.oneCell' = true
  | [], u, h => by simp [cel_nil] at h
  | s :: hs, u, h => by
    rw [cel_cons] at h
    rcases List.mem_cons.1 h with rfl | h
    · rfl
    · rcases List.mem_cons.1 h with rfl | h
      · rfl
      · exact cel_one hs u h
/-- The cells of slips, in the walk's spelling. -/
theorem CellsAt.slips {w : World} {a : Option Addr} {hs : Slips} (h : CellsAt w a (cel hs)) (hne : 0 < hs.length) :
    ∃ b o, a = some ⟨b, o, none⟩ ∧ b < w.heap.size ∧ b ≠ w.heap.size ∧ ∀ j, j < hs.length → w.cell? ⟨b, o + j * 2, none⟩ = some (.int .i64 (tg hs j)) ∧ w.cell? ⟨b, o + j * 2 + 1, none⟩ = some (.int .u64 (wg hs j)) := by
  rcases h with h | ⟨b, o, ha, h⟩
  · have := cel_len hs; rw [h] at this; simp at this; omega
  · have key : ∀ j, j < hs.length → w.cell? ⟨b, o + j * 2, none⟩ = some (.int .i64 (tg hs j)) ∧ w.cell? ⟨b, o + j * 2 + 1, none⟩ = some (.int .u64 (wg hs j)) := fun j hj => by
      have := cel_at hs j hj
      exact ⟨h _ _ this.1, by have h2 := h _ _ this.2; rwa [← Nat.add_assoc] at h2⟩
    have := World.block_lt_of_cell? _ _ (key 0 hne).1
    simp only at this
    exact ⟨b, o, ha, this, by omega, key⟩

end Go.Proofs.Ytpfldkcbkolgnaa
