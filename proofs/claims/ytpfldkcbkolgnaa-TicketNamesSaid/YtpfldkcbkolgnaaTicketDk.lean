/- What the operations on a desk do, as plain functions. -/
import Derived.Test.YtpfldkcbkolgnaaTicketChecks
namespace Go.Proofs.Ytpfldkcbkolgnaa
open Go.RowKit
set_option linter.unusedSimpArgs false

structure Dk where
  g : Int
  o : Int
  r : Int
  hs : Slips
def Dk.zero : Dk := ⟨0, 0, 0, []⟩
def Dk.err (d : Dk) : Int := dErr d.g d.o d.r d.hs
def dNew (n : Int) : Dk × Int := if 1 ≤ n ∧ n ≤ 16 then (⟨0, 0, n, []⟩, 0) else (Dk.zero, 2)
def dTake (d : Dk) : Dk × Int × Int := if d.err = 0 then (if d.g = 1000000000 then (Dk.zero, 0, 18) else (⟨d.g + 1, d.o, d.r, d.hs⟩, d.g, 0)) else (Dk.zero, 0, 8)
def dPut (d : Dk) (t x : Int) : Dk × Int :=
  if d.err = 0 then (if t < d.o ∨ d.g ≤ t then (Dk.zero, 2) else if hasT d.hs t then (Dk.zero, 14) else if t ≠ d.o ∧ d.r ≤ besides d.o d.hs then (Dk.zero, 38) else (⟨d.g, d.o, d.r, insD d.hs t x⟩, 0)) else (Dk.zero, 8)
def dPop (d : Dk) : Dk × (Int × Int) × Int :=
  if d.err = 0 then (if 0 < d.hs.length ∧ tg d.hs 0 = d.o then (⟨d.g, d.o + 1, d.r, d.hs.drop 1⟩, (tg d.hs 0, wg d.hs 0), 0) else (Dk.zero, (0, 0), 38)) else (Dk.zero, (0, 0), 8)
def dDrain (d : Dk) : Dk × Slips × Int :=
  if d.err = 0 then (⟨d.g, d.o + run d.o d.hs, d.r, d.hs.drop (run d.o d.hs)⟩, d.hs.take (run d.o d.hs), 0) else (Dk.zero, [], 8)

/-- A value is the desk `d`, its slips in memory. -/
def DkIs (w : World) (d : Dk) (v : Value) : Prop := ∃ a c, v = .agg #[.int .i64 d.g, .int .i64 d.o, .int .i64 d.r, .slice a d.hs.length c] ∧ CellsAt w a (cel d.hs)
/-- The address lies in a block from `B` on. -/
def Fresh (B : Nat) (a : Option Addr) : Prop := ∀ ad, a = some ad → B ≤ ad.block
theorem fresh_none (B : Nat) : Fresh B none := fun ad e => by cases e
def RetD (B : Nat) (w : World) (e : Ending) (r : Dk × Int) : Prop := ∃ a c, e = .returned (.tuple #[.agg #[.int .i64 r.1.g, .int .i64 r.1.o, .int .i64 r.1.r, .slice a r.1.hs.length c], .int .i64 r.2]) ∧ CellsAt w a (cel r.1.hs) ∧ Fresh B a
def RetDI (B : Nat) (w : World) (e : Ending) (r : Dk × Int × Int) : Prop := ∃ a c, e = .returned (.tuple #[.agg #[.int .i64 r.1.g, .int .i64 r.1.o, .int .i64 r.1.r, .slice a r.1.hs.length c], .int .i64 r.2.1, .int .i64 r.2.2]) ∧ CellsAt w a (cel r.1.hs) ∧ Fresh B a
def RetDS (B : Nat) (w : World) (e : Ending) (r : Dk × (Int × Int) × Int) : Prop := ∃ a c, e = .returned (.tuple #[.agg #[.int .i64 r.1.g, .int .i64 r.1.o, .int .i64 r.1.r, .slice a r.1.hs.length c], .agg #[.int .i64 r.2.1.1, .int .u64 r.2.1.2], .int .i64 r.2.2]) ∧ CellsAt w a (cel r.1.hs) ∧ Fresh B a
def RetDL (B : Nat) (w : World) (e : Ending) (r : Dk × Slips × Int) : Prop := ∃ a c b c2, e = .returned (.tuple #[.agg #[.int .i64 r.1.g, .int .i64 r.1.o, .int .i64 r.1.r, .slice a r.1.hs.length c], .slice b r.2.1.length c2, .int .i64 r.2.2]) ∧ CellsAt w a (cel r.1.hs) ∧ CellsAt w b (cel r.2.1) ∧ Fresh B a ∧ Fresh B b
theorem RetD.mk' {B : Nat} {w : World} {e : Ending} {r : Dk × Int} {n c : Nat} {a : Option Addr} (hn : n = r.1.hs.length) (he : e = .returned (.tuple #[.agg #[.int .i64 r.1.g, .int .i64 r.1.o, .int .i64 r.1.r, .slice a n c], .int .i64 r.2])) (hc : CellsAt w a (cel r.1.hs)) (hf : Fresh B a) : RetD B w e r := by subst hn; exact ⟨a, c, he, hc, hf⟩
theorem RetDS.mk' {B : Nat} {w : World} {e : Ending} {r : Dk × (Int × Int) × Int} {n c : Nat} {a : Option Addr} (hn : n = r.1.hs.length) (he : e = .returned (.tuple #[.agg #[.int .i64 r.1.g, .int .i64 r.1.o, .int .i64 r.1.r, .slice a n c], .agg #[.int .i64 r.2.1.1, .int .u64 r.2.1.2], .int .i64 r.2.2])) (hc : CellsAt w a (cel r.1.hs)) (hf : Fresh B a) : RetDS B w e r := by subst hn; exact ⟨a, c, he, hc, hf⟩
theorem RetDL.mk' {B : Nat} {w : World} {e : Ending} {r : Dk × Slips × Int} {n m c c2 : Nat} {a b : Option Addr} (hn : n = r.1.hs.length) (hm : m = r.2.1.length) (he : e = .returned (.tuple #[.agg #[.int .i64 r.1.g, .int .i64 r.1.o, .int .i64 r.1.r, .slice a n c], .slice b m c2, .int .i64 r.2.2])) (hc : CellsAt w a (cel r.1.hs)) (hd : CellsAt w b (cel r.2.1)) (hf : Fresh B a) (hg : Fresh B b) : RetDL B w e r := by subst hn hm; exact ⟨a, c, b, c2, he, hc, hd, hf, hg⟩
theorem RetD.of {B : Nat} {w : World} {e : Ending} {r r' : Dk × Int} (h : RetD B w e r) (he : r = r') : RetD B w e r' := he ▸ h
theorem RetDI.of {B : Nat} {w : World} {e : Ending} {r r' : Dk × Int × Int} (h : RetDI B w e r) (he : r = r') : RetDI B w e r' := he ▸ h
theorem RetDS.of {B : Nat} {w : World} {e : Ending} {r r' : Dk × (Int × Int) × Int} (h : RetDS B w e r) (he : r = r') : RetDS B w e r' := he ▸ h
theorem RetDL.of {B : Nat} {w : World} {e : Ending} {r r' : Dk × Slips × Int} (h : RetDL B w e r) (he : r = r') : RetDL B w e r' := he ▸ h
theorem insD_len (hs : Slips) (t x : Int) : (insD hs t x).length = hs.length + 1 := by
  have := lb_le hs t
  unfold insD
  rw [List.length_append, List.length_cons, List.length_take, List.length_drop]; omega
theorem cel0 (w : World) (a : Option Addr) : CellsAt w a (cel []) := .inl rfl
theorem CellsAt.drop {w : World} {b o : Nat} {cs : List Value} (h : CellsAt w (some ⟨b, o, none⟩) cs) (k : Nat) : CellsAt w (some ⟨b, o + k, none⟩) (cs.drop k) := by
  rcases h with rfl | ⟨b', o', ha, h⟩
  · left; simp
  · cases ha
    exact .inr ⟨_, _, rfl, fun j u hj => by rw [Nat.add_assoc]; exact h (k + j) u (by rwa [List.getElem?_drop] at hj)⟩
theorem CellsAt.take {w : World} {a : Option Addr} {cs : List Value} (h : CellsAt w a cs) (k : Nat) : CellsAt w a (cs.take k) := by
  rcases h with rfl | ⟨b', o', ha, h⟩
  · left; simp
  · exact .inr ⟨_, _, ha, fun j u hj => h j u (by rw [List.getElem?_take] at hj; split at hj; exact hj; cases hj)⟩
theorem cel_take (hs : Slips) (k : Nat) : cel (hs.take k) = (cel hs).take (k * 2) := by
  induction hs generalizing k with
  | nil => simp [cel_nil]
  | cons s hs ih =>
    cases k with
    | zero => simp [cel_nil]
    | succ k => rw [List.take_succ_cons, cel_cons, cel_cons, ih, show (k + 1) * 2 = k * 2 + 1 + 1 by omega]; simp
theorem cel_drop (hs : Slips) (k : Nat) : cel (hs.drop k) = (cel hs).drop (k * 2) := by
  induction hs generalizing k with
  | nil => simp [cel_nil]
  | cons s hs ih =>
    cases k with
    | zero => simp [cel_nil]
    | succ k => rw [List.drop_succ_cons, cel_cons, ih, show (k + 1) * 2 = k * 2 + 1 + 1 by omega]; simp
theorem insD_cel (hs : Slips) (t x : Int) : cel (insD hs t x) = (cel hs).take (lb hs t * 2) ++ [.int .i64 t, .int .u64 x] ++ (cel hs).drop (lb hs t * 2) := by
  unfold insD
  rw [cel_append, cel_cons, cel_take, cel_drop]
  simp
/-- How many may be held. -/
theorem DV.len {g o r : Int} {hs : Slips} (h : DV g o r hs) : hs.length ≤ 17 := by
  have h1 := held_besides (fun i hi => (h.nth i hi).1) h.inc
  have := h.room
  have := h.r2
  unfold heldN at h1
  split at h1 <;> omega
theorem DV.held {g o r : Int} {hs : Slips} (h : DV g o r hs) : heldN o hs = besides o hs := (held_besides (fun i hi => (h.nth i hi).1) h.inc).symm
end Go.Proofs.Ytpfldkcbkolgnaa
