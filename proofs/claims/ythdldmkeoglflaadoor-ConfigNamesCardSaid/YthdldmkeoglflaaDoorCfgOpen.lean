/- A setup that came in. -/
import Derived.Test.YthdldmkeoglflaaDoorOpenRows
import Derived.Test.YthdldmkeoglflaaDoorCfgFind
import Derived.ProofKit
import Derived.OpenShut
import Derived.ShutString
namespace Go.Proofs.YthdldmkeoglflaaDoor
set_option maxRecDepth 100000
open Go.RowKit Go.Joins Go.ChangeShapes Go.WideShapes Go.ChangeAt
set_option linter.unusedVariables false
set_option linter.unusedSimpArgs false
set_option maxRecDepth 100000

theorem cells_setup : Tryd.prog.cellsOf 27 = 11 := by kernel_rfl
theorem cells_config : Tryd.prog.cellsOf 23 = 9 := by kernel_rfl
theorem cells_peer : Tryd.prog.cellsOf 46 = 2 := by kernel_rfl
section
variable {H : Type} {enc : TypeId × Value → H} {P : Program} {w : World}
theorem open_rowC {t e : TypeId} {s base : Nat} {held : Bool} {fuel : Nat} {v : Value} {y : DataW H × List MemPlace} (F : List Value → Prop) (ht : P.underlying t = some (.slice e)) (hc : P.cellsOf e = s) (hs : 0 < s)
    (hF : ∀ n cs x, DataW.trod enc P w base (fun _ => true) held n e cs = some x → cs.length = s → F cs)
    (h : DataW.trod enc P w base (fun _ => true) held fuel t [v] = some y) :
    ∃ (a : Option Addr) (c : Nat) (rs : List (List Value)), v = .slice a rs.length c ∧ CellsAt w a rs.flatten ∧ rs.length ≤ maxLen ∧ rs.length ≤ c ∧ ∀ r ∈ rs, r.length = s ∧ F r := by
  have h' := h
  obtain ⟨a, c, rs, h1, h2, h3, h4⟩ := open_rowG F ht hc hs hF h
  refine ⟨a, c, rs, h1, h2, h3, ?_, h4⟩
  rcases Go.Deep.open_slice ht h' with ⟨hcs, _⟩ | ⟨a', len, cap, m, n, D, Pl, hcs, _, hl, _⟩
  · simp at hcs
    rw [h1] at hcs
    simp only [Value.slice.injEq] at hcs
    omega
  · simp at hcs
    rw [h1] at hcs
    simp only [Value.slice.injEq] at hcs
    omega
end
theorem rng_u32 {a : Int} (h : (Lit.int .u32 a).wf = true) : 0 ≤ a ∧ a < 4294967296 := by
  have h : (decide (IntKind.u32.min ≤ a) && decide (a ≤ IntKind.u32.max)) = true := h
  rw [Bool.and_eq_true, decide_eq_true_eq, decide_eq_true_eq] at h
  have e1 : IntKind.u32.min = 0 := by decide
  have e2 : IntKind.u32.max = 4294967295 := by decide
  omega
theorem rows_peers : ∀ rs : List (List Value), (∀ r ∈ rs, r.length = 2 ∧ ∃ (n : ByteArray) (q : Int), r = [.string n, .int .u32 q] ∧ (0 ≤ q ∧ q < 4294967296)) → ∃ ps : Peers, rs.flatten = cel ps ∧ rs.length = ps.length ∧ ∀ p ∈ ps, 0 ≤ p.2 ∧ p.2 < 4294967296
  | [], _ => ⟨[], rfl, rfl, fun p hp => by simp at hp⟩
  | r :: rs, h => by
    obtain ⟨ps, e1, e2, e3⟩ := rows_peers rs fun x hx => h x (List.mem_cons_of_mem _ hx)
    obtain ⟨_, n, q, he, hq⟩ := h r (List.mem_cons_self ..)
    refine ⟨(n, q) :: ps, by rw [List.flatten_cons, e1, he]; rfl, by simp [e2], fun p hp => ?_⟩
    rcases List.mem_cons.1 hp with rfl | hp
    · exact hq
    · exact e3 p hp
/-- What the walk is told of a setup that came in. -/
structure SetIn (w : World) (s : Int) (ps : Peers) (a : Option Addr) (c : Nat) : Prop where
  s0 : 0 ≤ s
  s4 : s < 4294967296
  cells : CellsAt w a (cel ps)
  keys : Keys ps
  cap : ps.length ≤ c
  len : ps.length ≤ maxLen
theorem open_peer {H : Type} {enc : TypeId × Value → H} {w : World} {base n : Nat} {sp : Nat → Bool} {held : Bool} {cs : List Value} {x : DataW H × List MemPlace} (hx : DataW.trod enc Tryd.prog w base sp held n 46 cs = some x) (hl : cs.length = 2) :
    ∃ (n : ByteArray) (q : Int), cs = [.string n, .int .u32 q] ∧ (0 ≤ q ∧ q < 4294967296) := by
  obtain ⟨xs, n', _, _, _, hyl, hf⟩ := DataW.trod_struct Tryd.underlying46 hx
  match cs, hl with
  | [u0, u1], _ =>
    have f0 := hf 0 _ rfl
    have f1 := hf 1 _ rfl
    simp at hyl
    match xs, hyl with
    | [x0, x1], _ =>
      obtain ⟨t, e0, _⟩ := DataW.trod_string Tryd.underlying9 f0
      obtain ⟨x, e1, _, wf⟩ := DataW.trod_int (k := .u32) Tryd.underlying24 f1
      have ci : Tryd.prog.cellsOf 9 = 1 := by kernel_rfl
      have cu : Tryd.prog.cellsOf 24 = 1 := by kernel_rfl
      simp [ci, cu] at e0 e1
      subst e0 e1
      exact ⟨t, x, rfl, rng_u32 wf⟩
theorem open_peerV {H : Type} {enc : TypeId × Value → H} {w : World} {r : Reach} {b0 base : Nat} {held : Bool} {v : Value} {d : DataW H} {p : List MemPlace}
    (hv : Value.okWide Tryd.prog w r b0 46 v) (h : DataW.Trod enc Tryd.prog w base (fun _ => true) held 46 v d p) :
    ∃ (n : ByteArray) (q : Int), v = .agg #[.string n, .int .u32 q] ∧ (0 ≤ q ∧ q < 4294967296) := by
  obtain ⟨cs, rfl, hsz⟩ := okWide_struct Tryd.underlying46 hv
  obtain ⟨fuel, hf⟩ := h
  have hl : cs.toList.length = 2 := by rw [Array.length_toList]; exact hsz.trans cells_peer
  obtain ⟨n, q, e, hq⟩ := open_peer hf (by simpa [Value.cells] using hl)
  refine ⟨n, q, ?_, hq⟩
  have e : cs.toList = [.string n, .int .u32 q] := by simpa [Value.cells] using e
  have : cs = #[.string n, .int .u32 q] := Array.ext' e
  rw [this]
theorem open_setup {H : Type} {enc : TypeId × Value → H} {w : World} {r : Reach} {b0 base : Nat} {held : Bool} {v : Value} {d : DataW H} {p : List MemPlace}
    (hv : Value.okWide Tryd.prog w r b0 27 v) (h : DataW.Trod enc Tryd.prog w base (fun _ => true) held 27 v d p) :
    ∃ (l0 l1 l2 l3 l4 l5 l6 l7 l8 s : Int) (ps : Peers) (a : Option Addr) (c : Nat), v = .agg #[.int .i64 l0, .int .i64 l1, .int .i64 l2, .int .i64 l3, .int .i64 l4, .int .i64 l5, .int .i64 l6, .int .i64 l7, .int .i64 l8, .int .u32 s, .slice a ps.length c] ∧ SetIn w s ps a c := by
  obtain ⟨cs, rfl, hsz⟩ := okWide_struct Tryd.underlying27 hv
  obtain ⟨fuel, hf⟩ := h
  have hl : cs.toList.length = 11 := by rw [Array.length_toList]; exact hsz.trans cells_setup
  obtain ⟨u, rfl⟩ : ∃ u : List Value, cs = u.toArray := ⟨cs.toList, by simp⟩
  simp only [Value.cells, List.toList_toArray] at hf hl
  obtain ⟨xs, n', _, _, _, hyl, hg⟩ := DataW.trod_struct Tryd.underlying27 hf
  have cu : Tryd.prog.cellsOf 24 = 1 := by kernel_rfl
  have ci : Tryd.prog.cellsOf 3 = 1 := by kernel_rfl
  have cp : Tryd.prog.cellsOf 25 = 1 := by kernel_rfl
  match u, hl with
  | [u0, u1, u2, u3, u4, u5, u6, u7, u8, u9, u10], _ =>
    simp at hyl
    match xs, hyl with
    | [x0, x1, x2], _ =>
      have g0 : DataW.trod enc Tryd.prog w base (fun _ => true) held n' 23 (([u0, u1, u2, u3, u4, u5, u6, u7, u8, u9, u10].drop 0).take (Tryd.prog.cellsOf 23)) = some x0 := hg 0 _ rfl
      have g1 := hg 1 _ rfl
      have g2 : DataW.trod enc Tryd.prog w base (fun _ => true) held n' 25 (([u0, u1, u2, u3, u4, u5, u6, u7, u8, u9, u10].drop 10).take (Tryd.prog.cellsOf 25)) = some x2 := hg 2 _ rfl
      rw [cells_config] at g0
      rw [cp] at g2
      replace g2 : DataW.trod enc Tryd.prog w base (fun _ => true) held n' 25 [u10] = some x2 := g2
      obtain ⟨s, e1, _, wf⟩ := DataW.trod_int (k := .u32) Tryd.underlying24 g1
      obtain ⟨ys, n2, _, _, _, hzl, hh⟩ := DataW.trod_struct Tryd.underlying23 g0
      simp at hzl
      match ys, hzl with
      | [y0, y1, y2, y3, y4, y5, y6, y7, y8], _ =>
        obtain ⟨l0, f0, _⟩ := DataW.trod_int (k := .i64) Tryd.underlying3 (hh 0 _ rfl)
        obtain ⟨l1, f1, _⟩ := DataW.trod_int (k := .i64) Tryd.underlying3 (hh 1 _ rfl)
        obtain ⟨l2, f2, _⟩ := DataW.trod_int (k := .i64) Tryd.underlying3 (hh 2 _ rfl)
        obtain ⟨l3, f3, _⟩ := DataW.trod_int (k := .i64) Tryd.underlying3 (hh 3 _ rfl)
        obtain ⟨l4, f4, _⟩ := DataW.trod_int (k := .i64) Tryd.underlying3 (hh 4 _ rfl)
        obtain ⟨l5, f5, _⟩ := DataW.trod_int (k := .i64) Tryd.underlying3 (hh 5 _ rfl)
        obtain ⟨l6, f6, _⟩ := DataW.trod_int (k := .i64) Tryd.underlying3 (hh 6 _ rfl)
        obtain ⟨l7, f7, _⟩ := DataW.trod_int (k := .i64) Tryd.underlying3 (hh 7 _ rfl)
        obtain ⟨l8, f8, _⟩ := DataW.trod_int (k := .i64) Tryd.underlying3 (hh 8 _ rfl)
        simp [ci] at f0 f1 f2 f3 f4 f5 f6 f7 f8
        simp [cu] at e1
        obtain ⟨a, c, rs, e3, h2, h3, h5, h4⟩ := open_rowC (fun r => ∃ (n : ByteArray) (q : Int), r = [.string n, .int .u32 q] ∧ (0 ≤ q ∧ q < 4294967296)) Tryd.underlying25 cells_peer (by omega) (fun n cs x hx hl => open_peer hx hl) g2
        obtain ⟨ps, e4, e5, e6⟩ := rows_peers rs h4
        subst f0 f1 f2 f3 f4 f5 f6 f7 f8 e1 e3
        rw [e5] at h3 h5 ⊢
        exact ⟨l0, l1, l2, l3, l4, l5, l6, l7, l8, s, ps, a, c, rfl, (rng_u32 wf).1, (rng_u32 wf).2, by rw [← e4]; exact h2, fun i hi => e6 _ (ps_mem hi), h5, h3⟩

end Go.Proofs.YthdldmkeoglflaaDoor
