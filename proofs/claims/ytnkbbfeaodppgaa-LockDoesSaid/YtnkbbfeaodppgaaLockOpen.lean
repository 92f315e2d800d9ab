/- A lock that came in. -/
import Derived.Test.YtnkbbfeaodppgaaOpenRows
import Derived.Test.YtnkbbfeaodppgaaLockThy2
namespace Go.Proofs.Ytnkbbfeaodppgaa
open Go.RowKit Go.Joins Go.ChangeShapes Go.WideShapes Go.ChangeAt

theorem cells_lock : Try.prog.cellsOf 25 = 3 := by kernel_rfl
theorem cells_wait : Try.prog.cellsOf 34 = 2 := by kernel_rfl
/-- What the walk is told of a lock that came in. -/
structure LkIn (w : World) (rs : List Int) (q : Waits) (ra : Option Addr) (rn : Nat) (qa : Option Addr) (qn : Nat) : Prop where
  rlen : rn = rs.length
  qlen : qn = q.length
  rs : CellsAt w ra (rs.map (Value.int .i64))
  qs : CellsAt w qa (celW q)
theorem LkIn.lock {w : World} {rs : List Int} {q : Waits} {ra qa : Option Addr} {rn qn : Nat} (h : LkIn w rs q ra rn qa qn) (h1 : rn ≤ 100) (h2 : qn ≤ 100) : LockIn w rs q ra qa rn qn := ⟨h.rlen, h.qlen, h.rs, h.qs, by omega, by omega⟩

theorem rows_waits : ∀ rs : List (List Value), (∀ r ∈ rs, r.length = 2 ∧ ∃ (t : Int) (b : Bool), r = [.int .i64 t, .bool b]) → ∃ hs : Waits, rs.flatten = celW hs ∧ rs.length = hs.length
  | [], _ => ⟨[], rfl, rfl⟩
  | r :: rs, h => by
    obtain ⟨hs, e1, e2⟩ := rows_waits rs fun x hx => h x (List.mem_cons_of_mem _ hx)
    obtain ⟨_, t, x, he⟩ := h r (List.mem_cons_self ..)
    exact ⟨(t, x) :: hs, by rw [List.flatten_cons, e1, he]; rfl, by simp [e2]⟩

theorem open_lock {H : Type} {enc : TypeId × Value → H} {w : World} {r : Reach} {b0 base : Nat} {held : Bool} {v : Value} {d : DataW H} {p : List MemPlace}
    (hv : Value.okWide Try.prog w r b0 25 v) (h : DataW.Trod enc Try.prog w base (fun _ => true) held 25 v d p) :
    ∃ (W : Int) (rs : List Int) (q : Waits) (ra : Option Addr) (rn rc : Nat) (qa : Option Addr) (qn qc : Nat), v = .agg #[.int .i64 W, .slice ra rn rc, .slice qa qn qc] ∧ LkIn w rs q ra rn qa qn := by
  obtain ⟨c0, c1, c2, y0, y1, y2, m, rfl, _, _, hy0, hy1, hy2⟩ := open_agg3 Try.underlying25 (by kernel_rfl) cells_lock hv h
  obtain ⟨W, e0, _, w0⟩ := DataW.trod_int Try.underlying3 hy0
  obtain ⟨ra, rc, xs, e1, hx, _, _⟩ := open_rowX Try.underlying22 Try.underlying3 (by kernel_rfl) hy1
  obtain ⟨a, c, rs, e3, h2, h3, h4⟩ := open_rowG (fun r => ∃ (t : Int) (b : Bool), r = [.int .i64 t, .bool b]) Try.underlying23 cells_wait (by omega) (fun n cs x hx hl => by
    obtain ⟨xs, n', _, _, _, hyl, hf⟩ := DataW.trod_struct Try.underlying34 hx
    match cs, hl with
    | [u0, u1], _ =>
      have f0 := hf 0 _ rfl
      have f1 := hf 1 _ rfl
      simp at hyl
      match xs, hyl with
      | [x0, x1], _ =>
        obtain ⟨t, e0, _⟩ := DataW.trod_int (k := .i64) Try.underlying3 f0
        obtain ⟨b, e1, _⟩ := DataW.trod_bool Try.underlying4 f1
        have ci : Try.prog.cellsOf 3 = 1 := by kernel_rfl
        have cu : Try.prog.cellsOf 4 = 1 := by kernel_rfl
        simp [ci, cu] at e0 e1
        subst e0 e1
        exact ⟨t, b, rfl⟩) hy2
  obtain ⟨hs, e4, e5⟩ := rows_waits rs h4
  simp at e0 e1
  subst e0 e1 e3
  rw [e5]
  exact ⟨W, xs, hs, ra, _, rc, a, _, c, rfl, rfl, rfl, hx, by rw [← e4]; exact h2⟩

end Go.Proofs.Ytnkbbfeaodppgaa
