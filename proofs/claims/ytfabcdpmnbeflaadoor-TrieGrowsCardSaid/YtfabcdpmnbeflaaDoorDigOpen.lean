/- Arguments as they come in: arrays of integers, mills, ids, pieces. -/
import Derived.Test.YtfabcdpmnbeflaaDoorOpenRows
import Derived.Test.YtfabcdpmnbeflaaDoorDigMills
import Derived.Lib.LaidTab
namespace Go.Proofs.YtfabcdpmnbeflaaDoor
set_option maxRecDepth 100000
open Go.RowKit Go.Joins Go.ChangeShapes Go.WideShapes Go.ChangeAt

section
variable {H : Type} {enc : TypeId × Value → H} {P : Program} {w : World} {base : Nat} {held : Bool}
/-- The cells of an array of integers. -/
theorem arr_ints {t e : TypeId} {n fuel : Nat} {k : IntKind} {cs : List Value} {x : DataW H × List MemPlace} (ht : P.underlying t = some (.array n e)) (he : P.underlying e = some (.int k)) (hc : P.cellsOf e = 1) (hct : P.cellsOf t = n)
    (h : DataW.trod enc P w base (fun _ => true) held fuel t cs = some x) : ∃ zs : List Int, cs = zs.map (Value.int k) ∧ zs.length = n ∧ ∀ z ∈ zs, (Lit.int k z).wf = true := by
  obtain ⟨xs, m, rfl, _, hl, hxl, hel⟩ := DataW.trod_array ht h
  rw [hct] at hl
  rw [hc] at hel
  have each : ∀ i, i < n → ∃ z : Int, cs[i]? = some (.int k z) ∧ (Lit.int k z).wf = true := fun i hi => by
    have h1 := hel i hi
    rw [Nat.mul_one, List.getElem?_eq_getElem (show i < xs.length by omega)] at h1
    have h2 : (cs.drop i).take 1 = [cs[i]'(by omega)] := by
      rw [List.drop_eq_getElem_cons (by omega)]; rfl
    rw [h2] at h1
    obtain ⟨z, e0, _, w0⟩ := DataW.trod_int he h1
    simp at e0
    exact ⟨z, by rw [List.getElem?_eq_getElem (by omega), e0], w0⟩
  refine ⟨cs.map fun v => match v with | .int _ z => z | _ => 0, ?_, by simpa using hl, fun z hz => ?_⟩
  · apply List.ext_getElem?
    intro i
    by_cases hi : i < n
    · obtain ⟨z, h1, _⟩ := each i hi
      simp [List.getElem?_map, h1]
    · simp [List.getElem?_eq_none (show cs.length ≤ i by omega)]
  · obtain ⟨v, hv, rfl⟩ := List.mem_map.1 hz
    obtain ⟨i, hi, rfl⟩ := List.mem_iff_getElem.1 hv
    obtain ⟨z, h1, h2⟩ := each i (by omega)
    rw [List.getElem?_eq_getElem hi] at h1
    simp only [Option.some.injEq] at h1
    rw [h1]; exact h2
theorem okWide_arr {r : Reach} {b0 n : Nat} {t e : TypeId} {v : Value} (ht : P.underlying t = some (.array n e)) (h : Value.okWide P w r b0 t v) : ∃ cs, v = .agg cs ∧ cs.size = P.cellsOf t := by
  simp only [Value.okWide, ht] at h
  obtain ⟨cs, h1, h2, _⟩ := h
  exact ⟨cs, h1, h2⟩
/-- An array of integers that came in. -/
theorem open_arr {r : Reach} {b0 n : Nat} {t e : TypeId} {k : IntKind} {v : Value} {d : DataW H} {p : List MemPlace} (ht : P.underlying t = some (.array n e)) (he : P.underlying e = some (.int k)) (hc : P.cellsOf e = 1) (hct : P.cellsOf t = n)
    (hv : Value.okWide P w r b0 t v) (h : DataW.Trod enc P w base (fun _ => true) held t v d p) : ∃ zs : List Int, v = .agg (zs.map (Value.int k)).toArray ∧ zs.length = n ∧ ∀ z ∈ zs, (Lit.int k z).wf = true := by
  obtain ⟨cs, rfl, hs⟩ := okWide_arr ht hv
  obtain ⟨fuel, hf⟩ := h
  obtain ⟨zs, h1, h2, h3⟩ := arr_ints ht he hc hct hf
  refine ⟨zs, ?_, h2, h3⟩
  rw [← h1]
  simp [Value.cells]
end

theorem cells_mill : Tryd.prog.cellsOf 95 = 10 := by kernel_rfl
theorem cells_u8 : Tryd.prog.cellsOf 5 = 1 := by kernel_rfl
theorem cells_u32 : Tryd.prog.cellsOf 92 = 1 := by kernel_rfl
theorem cells_int : Tryd.prog.cellsOf 3 = 1 := by kernel_rfl
theorem cells_w8 : Tryd.prog.cellsOf 93 = 8 := by kernel_rfl
theorem cells_id : Tryd.prog.cellsOf 24 = 32 := by kernel_rfl
theorem cells_by : Tryd.prog.cellsOf 39 = 1 := by kernel_rfl
theorem u8_bytes {xs : List Int} (h : ∀ x ∈ xs, (Lit.int .u8 x).wf = true) : Bytes8 xs := fun x hx => bd_u8 (h x hx)
theorem v8_ok {l : List Int} (h : ∀ x ∈ l, (Lit.int .u32 x).wf = true) {v : V8} (hv : v.list = l) : v.ok := by
  have : Rng32 l := fun x hx => bd_u32 (h x hx)
  rw [← hv] at this
  exact V8.of_ok this

theorem open_mill {H : Type} {enc : TypeId × Value → H} {w : World} {r : Reach} {b0 base : Nat} {held : Bool} {v : Value} {d : DataW H} {p : List MemPlace}
    (hv : Value.okWide Tryd.prog w r b0 95 v) (h : DataW.Trod enc Tryd.prog w base (fun _ => true) held 95 v d p) :
    ∃ (u : V8) (rs : List Int) (N : Int) (a : Option Addr) (c : Nat), v = .agg #[.int .u32 u.a, .int .u32 u.b, .int .u32 u.c, .int .u32 u.d, .int .u32 u.e, .int .u32 u.f, .int .u32 u.g, .int .u32 u.z, .slice a rs.length c, .int .i64 N] ∧ MillIn w u rs N a := by
  obtain ⟨cs, rfl, hs⟩ := okWide_struct Tryd.underlying95 hv
  rw [cells_mill] at hs
  obtain ⟨fuel, hf⟩ := h
  obtain ⟨xs, n, rfl, _, _, hxl, hfl⟩ := DataW.trod_struct Tryd.underlying95 hf
  have f0 := hfl 0 _ rfl
  have f1 := hfl 1 _ rfl
  have f2 := hfl 2 _ rfl
  simp only [Value.cells] at f0 f1 f2
  obtain ⟨l, rfl⟩ : ∃ l : List Value, cs = l.toArray := ⟨cs.toList, by simp⟩
  simp only [List.size_toArray] at hs
  match l, hs with
  | [c0, c1, c2, c3, c4, c5, c6, c7, c8, c9], _ =>
    simp at hxl
    match xs, hxl with
    | [x0, x1, x2], _ =>
      obtain ⟨zs, e0, hz, wz⟩ := arr_ints Tryd.underlying93 Tryd.underlying92 cells_u32 cells_w8 f0
      obtain ⟨a, c, rs, e1, h2, h3, w1⟩ := open_rowX Tryd.underlying39 Tryd.underlying5 cells_u8 f1
      obtain ⟨N, e2, _, w2⟩ := DataW.trod_int (k := .i64) Tryd.underlying3 f2
      obtain ⟨u, hu⟩ := V8.of_list zs hz
      rw [← hu] at e0
      simp [V8.list, cells_int] at e0 e1 e2
      obtain ⟨rfl, rfl, rfl, rfl, rfl, rfl, rfl, rfl⟩ := e0
      subst e1 e2
      exact ⟨u, rs, N, a, c, rfl, v8_ok wz hu, h2, u8_bytes w1, h3⟩
theorem open_bytes8 {H : Type} {enc : TypeId × Value → H} {w : World} {r : Reach} {b0 base : Nat} {held : Bool} {v : Value} {d : DataW H} {p : List MemPlace}
    (hv : Value.okWide Tryd.prog w r b0 39 v) (h : DataW.Trod enc Tryd.prog w base (fun _ => true) held 39 v d p) :
    ∃ (bs : List Int) (a : Option Addr) (c : Nat), v = .slice a bs.length c ∧ BytesIn w a bs := by
  obtain ⟨a0, l0, c0, rfl⟩ := okWide_slice Tryd.underlying39 hv
  obtain ⟨fuel, hf⟩ := h
  obtain ⟨a, c, bs, e, h2, h3, w1⟩ := open_rowX Tryd.underlying39 Tryd.underlying5 cells_u8 hf
  exact ⟨bs, a, c, e, h2, u8_bytes w1, h3⟩
/-- An id that came in. -/
structure IdIn (xs : List Int) : Prop where
  len : xs.length = 32
  bytes : Bytes8 xs
theorem open_id {H : Type} {enc : TypeId × Value → H} {w : World} {r : Reach} {b0 base : Nat} {held : Bool} {v : Value} {d : DataW H} {p : List MemPlace}
    (hv : Value.okWide Tryd.prog w r b0 24 v) (h : DataW.Trod enc Tryd.prog w base (fun _ => true) held 24 v d p) :
    ∃ xs : List Int, v = .agg (xs.map (Value.int .u8)).toArray ∧ IdIn xs := by
  obtain ⟨zs, h1, h2, h3⟩ := open_arr Tryd.underlying24 Tryd.underlying5 cells_u8 cells_id hv h
  exact ⟨zs, h1, h2, u8_bytes h3⟩
theorem open_words {H : Type} {enc : TypeId × Value → H} {w : World} {r : Reach} {b0 base : Nat} {held : Bool} {v : Value} {d : DataW H} {p : List MemPlace}
    (hv : Value.okWide Tryd.prog w r b0 93 v) (h : DataW.Trod enc Tryd.prog w base (fun _ => true) held 93 v d p) :
    ∃ u : V8, v = .agg #[.int .u32 u.a, .int .u32 u.b, .int .u32 u.c, .int .u32 u.d, .int .u32 u.e, .int .u32 u.f, .int .u32 u.g, .int .u32 u.z] ∧ u.ok := by
  obtain ⟨zs, h1, h2, h3⟩ := open_arr Tryd.underlying93 Tryd.underlying92 cells_u32 cells_w8 hv h
  obtain ⟨u, hu⟩ := V8.of_list zs h2
  exact ⟨u, by rw [h1, ← hu]; rfl, v8_ok h3 hu⟩
/-- A slice of bytes in memory, as a cell. -/
def PieceAt (w : World) (v : Value) (bs : List Int) : Prop := ∃ a c, v = .slice a bs.length c ∧ CellsAt w a (bs.map (Value.int .u8)) ∧ Bytes8 bs ∧ bs.length ≤ maxLen
/-- Pieces: cells, each a slice of bytes. -/
def PiecesAt (w : World) : List Value → List (List Int) → Prop
  | [], [] => True
  | v :: vs, bs :: l => PieceAt w v bs ∧ PiecesAt w vs l
  | _, _ => False
structure PiecesIn (w : World) (a : Option Addr) (vs : List Value) (l : List (List Int)) : Prop where
  cells : CellsAt w a vs
  all : PiecesAt w vs l
  vlen : vs.length = l.length
  len : l.length ≤ maxLen
theorem pieces_of {w : World} : ∀ rs : List (List Value), (∀ r ∈ rs, r.length = 1 ∧ ∃ u bs, r = [u] ∧ PieceAt w u bs) → ∃ l, PiecesAt w rs.flatten l ∧ rs.length = l.length ∧ rs.flatten.length = l.length
  | [], _ => ⟨[], trivial, rfl, rfl⟩
  | r :: rs, h => by
    obtain ⟨l, e1, e2, e3⟩ := pieces_of rs fun x hx => h x (List.mem_cons_of_mem _ hx)
    obtain ⟨_, u, bs, rfl, hb⟩ := h r (List.mem_cons_self ..)
    exact ⟨bs :: l, ⟨hb, e1⟩, by simp [e2], by simp [e3]⟩
theorem open_pieces {H : Type} {enc : TypeId × Value → H} {w : World} {r : Reach} {b0 base : Nat} {held : Bool} {v : Value} {d : DataW H} {p : List MemPlace}
    (hv : Value.okWide Tryd.prog w r b0 86 v) (h : DataW.Trod enc Tryd.prog w base (fun _ => true) held 86 v d p) :
    ∃ (l : List (List Int)) (vs : List Value) (a : Option Addr) (c : Nat), v = .slice a l.length c ∧ PiecesIn w a vs l := by
  obtain ⟨a0, l0, c0, rfl⟩ := okWide_slice Tryd.underlying86 hv
  obtain ⟨fuel, hf⟩ := h
  obtain ⟨a, c, rs, e3, h2, h3, h4⟩ := open_rowG (fun r => ∃ u bs, r = [u] ∧ PieceAt w u bs) Tryd.underlying86 cells_by (by omega) (fun n cs x hx hl => by
    match cs, hl with
    | [u], _ =>
      obtain ⟨a, c, bs, e, h2, h3, w1⟩ := open_rowX Tryd.underlying39 Tryd.underlying5 cells_u8 hx
      exact ⟨u, bs, rfl, a, c, e, h2, u8_bytes w1, h3⟩) hf
  obtain ⟨l, e4, e5, e6⟩ := pieces_of rs h4
  exact ⟨l, rs.flatten, a, c, by rw [← e5]; exact e3, h2, e4, e6, by rw [← e5]; exact h3⟩

end Go.Proofs.YtfabcdpmnbeflaaDoor
