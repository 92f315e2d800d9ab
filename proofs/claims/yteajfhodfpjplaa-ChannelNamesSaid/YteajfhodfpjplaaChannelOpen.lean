/- A channel that came in. -/
import Derived.Test.YteajfhodfpjplaaOpen
import Derived.Test.YteajfhodfpjplaaChannelAlive
namespace Go.Proofs.Yteajfhodfpjplaa
set_option linter.unusedSimpArgs false
set_option linter.unusedVariables false
set_option linter.unnecessarySimpa false
open Go.RowKit Go.Joins Go.ChangeShapes Go.WideShapes Go.ChangeAt

theorem cells_chan : Try.prog.cellsOf 24 = 3 := by kernel_rfl
/-- What the walk is told of a channel that came in. -/
structure ChanIn (w : World) (C : Int) (xs : List Int) (a : Option Addr) : Prop where
  cap : (Lit.int .i64 C).wf = true
  cells : CellsAt w a (xs.map (Value.int .u64))
  len : xs.length ≤ maxLen
  wf : ∀ x ∈ xs, (Lit.int .u64 x).wf = true

theorem open_chan {H : Type} {enc : TypeId × Value → H} {w : World} {r : Reach} {b0 base : Nat} {held : Bool} {v : Value} {d : DataW H} {p : List MemPlace}
    (hv : Value.okWide Try.prog w r b0 24 v) (h : DataW.Trod enc Try.prog w base (fun _ => true) held 24 v d p) :
    ∃ (C : Int) (xs : List Int) (cl : Bool) (a : Option Addr) (c : Nat), v = .agg #[.int .i64 C, .slice a xs.length c, .bool cl] ∧ ChanIn w C xs a := by
  obtain ⟨c0, c1, c2, y0, y1, y2, m, rfl, _, _, hy0, hy1, hy2⟩ := open_agg3 Try.underlying24 (by kernel_rfl) cells_chan hv h
  obtain ⟨C, e0, _, wC⟩ := DataW.trod_int Try.underlying3 hy0
  obtain ⟨b, e2, _⟩ := DataW.trod_bool Try.underlying4 hy2
  obtain ⟨a, c, xs, e1, hc, hl, hw⟩ := open_rowX Try.underlying22 Try.underlying25 (by kernel_rfl) hy1
  simp at e0 e2
  subst e0 e2 e1
  exact ⟨C, xs, b, a, c, rfl, wC, hc, hl, hw⟩

end Go.Proofs.Yteajfhodfpjplaa
