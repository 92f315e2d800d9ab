/- Tasks and rows of integers that came in. -/
import Derived.Test.YtoelndaeemlefaaOpen
import Derived.Test.YtoelndaeemlefaaSchedSame
namespace Go.Proofs.Ytoelndaeemlefaa
open Go.RowKit Go.Joins Go.ChangeShapes Go.WideShapes Go.ChangeAt

theorem cells_tasks : Try.prog.cellsOf 24 = 2 := by kernel_rfl
/-- What the walk is told of a row of integers that came in. -/
structure RowIn (w : World) (a : Option Addr) (xs : List Int) : Prop where
  cells : CellsAt w a (xs.map (Value.int .i64))
  len : xs.length ≤ maxLen
  wf : ∀ x ∈ xs, (Lit.int .i64 x).wf = true
/-- What the walk is told of tasks that came in. -/
structure TkIn (w : World) (l a : List Int) (la aa : Option Addr) : Prop where
  left : RowIn w la l
  aft : RowIn w aa a

theorem open_ints13 {H : Type} {enc : TypeId × Value → H} {w : World} {r : Reach} {b0 base : Nat} {held : Bool} {v : Value} {d : DataW H} {p : List MemPlace}
    (hv : Value.okWide Try.prog w r b0 22 v) (h : DataW.Trod enc Try.prog w base (fun _ => true) held 22 v d p) :
    ∃ (a : Option Addr) (c : Nat) (xs : List Int), v = .slice a xs.length c ∧ RowIn w a xs := by
  obtain ⟨a0, l0, c0, rfl⟩ := okWide_slice Try.underlying22 hv
  obtain ⟨n, h⟩ := h
  obtain ⟨a, c, xs, e, h1, h2, h3⟩ := open_rowX Try.underlying22 Try.underlying3 (by kernel_rfl) h
  exact ⟨a, c, xs, e, h1, h2, h3⟩
theorem open_tasks {H : Type} {enc : TypeId × Value → H} {w : World} {r : Reach} {b0 base : Nat} {held : Bool} {v : Value} {d : DataW H} {p : List MemPlace}
    (hv : Value.okWide Try.prog w r b0 24 v) (h : DataW.Trod enc Try.prog w base (fun _ => true) held 24 v d p) :
    ∃ (l a : List Int) (la aa : Option Addr) (lc ac : Nat), v = .agg #[.slice la l.length lc, .slice aa a.length ac] ∧ TkIn w l a la aa := by
  obtain ⟨v0, v1, y0, y1, n, rfl, _, _, h0, h1⟩ := open_agg2 Try.underlying24 (by kernel_rfl) cells_tasks hv h
  obtain ⟨la, lc, l, e0, g1, g2, g3⟩ := open_rowX Try.underlying22 Try.underlying3 (by kernel_rfl) h0
  obtain ⟨aa, ac, a, e1, k1, k2, k3⟩ := open_rowX Try.underlying22 Try.underlying3 (by kernel_rfl) h1
  subst e0 e1
  exact ⟨l, a, la, aa, lc, ac, rfl, ⟨g1, g2, g3⟩, ⟨k1, k2, k3⟩⟩

end Go.Proofs.Ytoelndaeemlefaa
