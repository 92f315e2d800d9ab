/- A row of integers that came in. -/
import Derived.Test.YtpfldkcbkolgnaaTicketOrderW
namespace Go.Proofs.Ytpfldkcbkolgnaa
open Go.RowKit Go.Joins Go.ChangeShapes Go.WideShapes Go.ChangeAt

theorem open_ints16 {H : Type} {enc : TypeId × Value → H} {w : World} {r : Reach} {b0 base : Nat} {held : Bool} {v : Value} {d : DataW H} {p : List MemPlace}
    (hv : Value.okWide Try.prog w r b0 22 v) (h : DataW.Trod enc Try.prog w base (fun _ => true) held 22 v d p) :
    ∃ (a : Option Addr) (c : Nat) (xs : List Int), v = .slice a xs.length c ∧ CellsAt w a (xs.map (Value.int .i64)) := by
  obtain ⟨a0, l0, c0, rfl⟩ := okWide_slice Try.underlying22 hv
  obtain ⟨n, h⟩ := h
  obtain ⟨a, c, xs, e, hc, _, _⟩ := open_rowX Try.underlying22 Try.underlying3 (by kernel_rfl) h
  exact ⟨a, c, xs, e, hc⟩

end Go.Proofs.Ytpfldkcbkolgnaa
