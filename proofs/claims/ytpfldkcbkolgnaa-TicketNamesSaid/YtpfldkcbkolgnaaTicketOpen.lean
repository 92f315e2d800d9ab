/- A desk that came in. -/
import Derived.Test.YtpfldkcbkolgnaaOpenRows
import Derived.Test.YtpfldkcbkolgnaaTicketRDrain
import Derived.Test.YtpfldkcbkolgnaaTicketSame
namespace Go.Proofs.Ytpfldkcbkolgnaa
open Go.RowKit Go.Joins Go.ChangeShapes Go.WideShapes Go.ChangeAt

theorem cells_desk : Try.prog.cellsOf 26 = 4 := by kernel_rfl
theorem cells_slip : Try.prog.cellsOf 38 = 2 := by kernel_rfl
/-- What the walk is told of a desk that came in. -/
structure DeskIn (w : World) (g o r : Int) (hs : Slips) (a : Option Addr) : Prop where
  wg : (Lit.int .i64 g).wf = true
  wo : (Lit.int .i64 o).wf = true
  wr : (Lit.int .i64 r).wf = true
  cells : CellsAt w a (cel hs)
  len : hs.length ≤ maxLen

theorem rows_slips : ∀ rs : List (List Value), (∀ r ∈ rs, r.length = 2 ∧ ∃ t x : Int, r = [.int .i64 t, .int .u64 x]) → ∃ hs : Slips, rs.flatten = cel hs ∧ rs.length = hs.length
  | [], _ => ⟨[], rfl, rfl⟩
  | r :: rs, h => by
    obtain ⟨hs, e1, e2⟩ := rows_slips rs fun x hx => h x (List.mem_cons_of_mem _ hx)
    obtain ⟨_, t, x, he⟩ := h r (List.mem_cons_self ..)
    exact ⟨(t, x) :: hs, by rw [List.flatten_cons, e1, he]; rfl, by simp [e2]⟩

theorem open_desk {H : Type} {enc : TypeId × Value → H} {w : World} {r : Reach} {b0 base : Nat} {held : Bool} {v : Value} {d : DataW H} {p : List MemPlace}
    (hv : Value.okWide Try.prog w r b0 26 v) (h : DataW.Trod enc Try.prog w base (fun _ => true) held 26 v d p) :
    ∃ (g o r : Int) (hs : Slips) (a : Option Addr) (c : Nat), v = .agg #[.int .i64 g, .int .i64 o, .int .i64 r, .slice a hs.length c] ∧ DeskIn w g o r hs a := by
  obtain ⟨c0, c1, c2, c3, y0, y1, y2, y3, m, rfl, _, _, hy0, hy1, hy2, hy3⟩ := open_agg4 Try.underlying26 (by kernel_rfl) cells_desk hv h
  obtain ⟨g, e0, _, w0⟩ := DataW.trod_int Try.underlying3 hy0
  obtain ⟨o, e1, _, w1⟩ := DataW.trod_int Try.underlying3 hy1
  obtain ⟨r, e2, _, w2⟩ := DataW.trod_int Try.underlying3 hy2
  obtain ⟨a, c, rs, e3, h2, h3, h4⟩ := open_rowG (fun r => ∃ t x : Int, r = [.int .i64 t, .int .u64 x]) Try.underlying24 cells_slip (by omega) (fun n cs x hx hl => by
    obtain ⟨xs, n', _, _, _, hyl, hf⟩ := DataW.trod_struct Try.underlying38 hx
    match cs, hl with
    | [u0, u1], _ =>
      have f0 := hf 0 _ rfl
      have f1 := hf 1 _ rfl
      simp at hyl
      match xs, hyl with
      | [x0, x1], _ =>
        obtain ⟨t, e0, _⟩ := DataW.trod_int (k := .i64) Try.underlying3 f0
        obtain ⟨x, e1, _⟩ := DataW.trod_int (k := .u64) Try.underlying33 f1
        have ci : Try.prog.cellsOf 3 = 1 := by kernel_rfl
        have cu : Try.prog.cellsOf 33 = 1 := by kernel_rfl
        simp [ci, cu] at e0 e1
        subst e0 e1
        exact ⟨t, x, rfl⟩) hy3
  obtain ⟨hs, e4, e5⟩ := rows_slips rs h4
  simp at e0 e1 e2
  subst e0 e1 e2 e3
  rw [e5]
  exact ⟨g, o, r, hs, a, c, rfl, w0, w1, w2, by rw [← e4]; exact h2, by rw [← e5]; exact h3⟩

end Go.Proofs.Ytpfldkcbkolgnaa
