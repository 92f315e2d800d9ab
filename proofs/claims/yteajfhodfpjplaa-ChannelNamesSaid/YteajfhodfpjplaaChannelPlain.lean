/- Channels as plain data, and what the operations do. -/
import Derived.Test.YteajfhodfpjplaaMem
namespace Go.Proofs.Yteajfhodfpjplaa
open Go.RowKit

structure ChS where
  cap : Int
  items : List Int
  closed : Bool

def ChS.zero : ChS := ⟨0, [], false⟩
/-- The error of a channel. -/
def chErr (c : ChS) : Int := if c.cap < 1 then 8 else if 60 < c.cap then 8 else if c.cap < c.items.length then 8 else 0
def chNew (n : Int) : ChS × Int := if n < 1 ∨ 60 < n then (.zero, 2) else (⟨n, [], false⟩, 0)
def chSend (c : ChS) (v : Int) : ChS × Int :=
  if chErr c = 8 then (.zero, 8) else if c.closed then (.zero, 36) else if (c.items.length : Int) = c.cap then (.zero, 38) else (⟨c.cap, c.items ++ [v], c.closed⟩, 0)
def chRecv (c : ChS) : ChS × Int × Bool × Int :=
  if chErr c = 8 then (.zero, 0, false, 8) else
  match c.items with
  | x :: r => (⟨c.cap, r, c.closed⟩, x, true, 0)
  | [] => if c.closed then (c, 0, false, 0) else (.zero, 0, false, 38)
def chClose (c : ChS) : ChS × Int :=
  if chErr c = 8 then (.zero, 8) else if c.closed then (.zero, 34) else (⟨c.cap, c.items, true⟩, 0)
def chRoom (c : ChS) : Int × Int :=
  if chErr c = 8 then (0, 8) else if c.closed then (0, 0) else (c.cap - c.items.length, 0)

theorem chErr_cases (c : ChS) : chErr c = 0 ∨ chErr c = 8 := by
  unfold chErr; (repeat' split) <;> simp
theorem chErr_ok {c : ChS} (h : chErr c = 0) : 1 ≤ c.cap ∧ c.cap ≤ 60 ∧ (c.items.length : Int) ≤ c.cap := by
  unfold chErr at h
  split at h <;> try (exact absurd h (by omega))
  split at h <;> try (exact absurd h (by omega))
  split at h <;> try (exact absurd h (by omega))
  omega

/-- A value that reads as a channel. -/
def IsCh (w : World) (v : Value) (c : ChS) : Prop :=
  ∃ a cp, v = .agg #[.int .i64 c.cap, .slice a c.items.length cp, .bool c.closed] ∧ CellsAt w a (c.items.map (Value.int .u64))
theorem IsCh.later {w w' : World} {v : Value} {c : ChS} (h : IsCh w v c) (hb : Below w.heap.size w w') : IsCh w' v c := by
  obtain ⟨a, cp, hv, h⟩ := h
  exact ⟨a, cp, hv, h.later hb⟩
theorem IsCh.zero (w : World) : IsCh w (.agg #[.int .i64 0, .slice none 0 0, .bool false]) .zero := ⟨none, 0, rfl, .inl rfl⟩


/-- A call has returned a channel and an error. -/
def ChRet (B : Nat) (w : World) (e : Ending) (r : ChS × Int) : Prop :=
  ∃ a c, e = .returned (.tuple #[.agg #[.int .i64 r.1.cap, .slice a r.1.items.length c, .bool r.1.closed], .int .i64 r.2]) ∧ CellsAt w a (r.1.items.map (Value.int .u64)) ∧ ∀ ad, a = some ad → B ≤ ad.block
theorem ChRet.zero (B : Nat) (w : World) (n : Int) : ChRet B w (.returned (.tuple #[.agg #[.int .i64 0, .slice none 0 0, .bool false], .int .i64 n])) (.zero, n) := ⟨none, 0, rfl, .inl rfl, fun _ h => by cases h⟩
theorem ChRet.of {B : Nat} {w : World} {e : Ending} {r r' : ChS × Int} (h : ChRet B w e r) (hr : r = r') : ChRet B w e r' := hr ▸ h

end Go.Proofs.Yteajfhodfpjplaa
