/- Rounds as plain data. -/
import Derived.Test.YtoelndaeemlefaaSchedOwn
namespace Go.Proofs.Ytoelndaeemlefaa
open Go.RowKit
set_option linter.unusedSimpArgs false
set_option linter.unusedVariables false

/-- The first runnable task from a number on, of c ones behind k. -/
def scan (l a : List Int) (from_ : Nat) : Nat → Nat → Option Nat
  | _, 0 => none
  | k, c + 1 => if can l a ((from_ + k) % l.length) then some ((from_ + k) % l.length) else scan l a from_ (k + 1) c
def nxt (l a : List Int) (from_ : Nat) : Option Nat := scan l a from_ 0 l.length
/-- A round of at most m picks. -/
def rr (a : List Int) : Nat → List Int → Nat → List Int
  | 0, _, _ => []
  | m + 1, l, f => match nxt l a f with
    | none => []
    | some i => (i : Int) :: rr a m (l.set i (g l i - 1)) (i + 1)
theorem scan_yes {l a : List Int} {f k c : Nat} (h : can l a ((f + k) % l.length) = true) (hc : 0 < c) : scan l a f k c = some ((f + k) % l.length) := by
  cases c with
  | zero => omega
  | succ c => simp [scan, h]
theorem scan_no {l a : List Int} {f k c c' : Nat} (h : can l a ((f + k) % l.length) = false) (hc : c = c' + 1) : scan l a f k c = scan l a f (k + 1) c' := by
  subst hc
  simp [scan, h]
theorem scan_some {l a : List Int} {f i : Nat} (hl : 0 < l.length) : ∀ {c k : Nat}, scan l a f k c = some i → i < l.length ∧ can l a i = true
  | 0, k, h => by simp [scan] at h
  | c + 1, k, h => by
    unfold scan at h
    split at h
    · rename_i hc
      cases h
      exact ⟨Nat.mod_lt _ hl, hc⟩
    · exact scan_some hl h
theorem rr_len (a : List Int) : ∀ (m : Nat) (l : List Int) (f : Nat), (rr a m l f).length ≤ m
  | 0, _, _ => by simp [rr]
  | m + 1, l, f => by
    unfold rr
    split
    · simp
    · have := rr_len a m (l.set ‹Nat› (g l ‹Nat› - 1)) (‹Nat› + 1)
      simp only [List.length_cons]
      omega
theorem rr_some {a l : List Int} {m f i : Nat} (h : nxt l a f = some i) : rr a (m + 1) l f = (i : Int) :: rr a m (l.set i (g l i - 1)) (i + 1) := by
  simp [rr, h]
theorem rr_none {a l : List Int} {m f : Nat} (h : nxt l a f = none) : rr a m l f = [] := by
  cases m with
  | zero => rfl
  | succ m => simp [rr, h]
def nxtI (l a : List Int) (f : Nat) : Int := match nxt l a f with
  | none => -1
  | some i => i
def tkRounds (l a : List Int) (n : Int) : List Int × Int :=
  if tErr l a = 0 then (if n < 0 then ([], 2) else if 300 < n then ([], 2) else (rr a n.toNat l 0, 0)) else ([], 8)
def rowLen : Value → Nat
  | .slice _ n _ => n
  | _ => 0

/-- One round more. -/
theorem rr_step {a L out tot : List Int} {n f i : Nat} (h : out ++ rr a (n - out.length) L f = tot) (hn : out.length < n) (hi : nxt L a f = some i) :
    (out ++ [(i : Int)]) ++ rr a (n - (out ++ [(i : Int)]).length) (L.set i (g L i - 1)) (i + 1) = tot := by
  rw [← h, show n - out.length = (n - (out.length + 1)) + 1 from by omega, rr_some hi]
  simp
theorem rr_end {a L out tot : List Int} {n f : Nat} (h : out ++ rr a (n - out.length) L f = tot) (hi : nxt L a f = none ∨ ¬ out.length < n) : out = tot := by
  rw [← h]
  rcases hi with hi | hi
  · rw [rr_none hi]; simp
  · rw [show n - out.length = 0 from by omega]; simp [rr]
theorem tmod_nat (m n : Nat) : Int.tmod (m : Int) (n : Int) = ((m % n : Nat) : Int) := by
  simp [Int.tmod]

end Go.Proofs.Ytoelndaeemlefaa
