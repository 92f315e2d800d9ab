/- Tasks and rows of integers that came in. -/
import Derived.Test.YtoelndaeemlefaaOpen
import Derived.Test.YtoelndaeemlefaaSchedSame
namespace Go.Proofs.Ytoelndaeemlefaa
open Go.RowKit Go.Joins Go.ChangeShapes Go.WideShapes Go.ChangeAt

theorem cells_tasks : Try.prog.cellsOf 24 = 2 := by kernel_rfl
/-- What the walk is told of a row of integers that came in. -/
structure RowIn (w : World) (a : Option Addr) (c : Nat) (xs : List Int) : Prop where
  cap : xs.length ≤ c
  cells : CellsAt w a (xs.map (Value.int .i64))
  len : xs.length ≤ maxLen
  wf : ∀ x ∈ xs, (Lit.int .i64 x).wf = true
/-- What the walk is told of tasks that came in. -/
structure TkIn (w : World) (l a : List Int) (la aa : Option Addr) (lc ac : Nat) : Prop where
  left : RowIn w la lc l
  aft : RowIn w aa ac a

theorem open_rowC {H : Type} {enc : TypeId × Value → H} {w : World} {base : Nat} {held : Bool} {fuel : Nat} {v : Value} {y : DataW H × List MemPlace}
    (h : DataW.trod enc Try.prog w base (fun _ => true) held fuel 22 [v] = some y) :
    ∃ (a : Option Addr) (c : Nat) (xs : List Int), v = .slice a xs.length c ∧ RowIn w a c xs := by
  rcases open_ints Try.underlying22 Try.underlying3 (by kernel_rfl) h with ⟨hcs, _⟩ | ⟨a, len, cap, zs, hcs, _, hl, hm, hz, _, hcell, hwz⟩
  · simp at hcs
    exact ⟨none, 0, [], hcs, by simp, .inl rfl, by simp [maxLen], fun x hx => by simp at hx⟩
  · simp at hcs
    simp at hz
    obtain ⟨h1, h2⟩ := row_of_zs (len := len) (by omega) hcell
    exact ⟨some a, cap, zs.take len, by rw [h1]; exact hcs, by omega, h2, by omega, fun x hx => hwz x (List.mem_of_mem_take hx)⟩
theorem open_ints13 {H : Type} {enc : TypeId × Value → H} {w : World} {r : Reach} {b0 base : Nat} {held : Bool} {v : Value} {d : DataW H} {p : List MemPlace}
    (hv : Value.okWide Try.prog w r b0 22 v) (h : DataW.Trod enc Try.prog w base (fun _ => true) held 22 v d p) :
    ∃ (a : Option Addr) (c : Nat) (xs : List Int), v = .slice a xs.length c ∧ RowIn w a c xs := by
  obtain ⟨a0, l0, c0, rfl⟩ := okWide_slice Try.underlying22 hv
  obtain ⟨n, h⟩ := h
  exact open_rowC h
theorem open_tasks {H : Type} {enc : TypeId × Value → H} {w : World} {r : Reach} {b0 base : Nat} {held : Bool} {v : Value} {d : DataW H} {p : List MemPlace}
    (hv : Value.okWide Try.prog w r b0 24 v) (h : DataW.Trod enc Try.prog w base (fun _ => true) held 24 v d p) :
    ∃ (l a : List Int) (la aa : Option Addr) (lc ac : Nat), v = .agg #[.slice la l.length lc, .slice aa a.length ac] ∧ TkIn w l a la aa lc ac := by
  obtain ⟨v0, v1, y0, y1, n, rfl, _, _, h0, h1⟩ := open_agg2 Try.underlying24 (by kernel_rfl) cells_tasks hv h
  obtain ⟨la, lc, l, e0, g1⟩ := open_rowC h0
  obtain ⟨aa, ac, a, e1, k1⟩ := open_rowC h1
  subst e0 e1
  exact ⟨l, a, la, aa, lc, ac, rfl, g1, k1⟩

end Go.Proofs.Ytoelndaeemlefaa
