/- DigD: DigTheory, DigSame, DigMills, DigOpen, DigCmp, DigPieces, DigSums, DigOf. -/
import Derived.Test.YthdldmkeoglflaaDoorDigC
import Derived.Laws.StructEq
import Derived.BigQuiet
import Derived.Test.YthdldmkeoglflaaDoorOwnAt
import Derived.Test.YthdldmkeoglflaaDoorOpenRows
import Derived.Lib.LaidTab
import Derived.Lib.BytesEntry
/- Bytes ground in parts are ground alike. -/
namespace Go.Proofs.YthdldmkeoglflaaDoor
set_option maxRecDepth 100000
open Go.RowKit

theorem grindN_left (hs a b : List Int) : ∀ k, 64 * k ≤ a.length → grindN hs (a ++ b) k = grindN hs a k
  | 0, _ => rfl
  | k + 1, h => by
    rw [grindN, grindN, grindN_left hs a b k (by omega)]
    rw [← ground_take _ ((a ++ b).drop (64 * k)), ← ground_take _ (a.drop (64 * k))]
    congr 1
    rw [List.drop_append_of_le_length (by omega), List.take_append_of_le_length (by rw [List.length_drop]; omega)]
theorem grindN_add (hs bs : List Int) (q : Nat) : ∀ k, grindN hs bs (q + k) = grindN (grindN hs bs q) (bs.drop (64 * q)) k
  | 0 => rfl
  | k + 1 => by
    rw [← Nat.add_assoc, grindN, grindN_add hs bs q k, grindN, List.drop_drop, Nat.mul_add]
/-- The rest of a mill that has ground a. -/
def restL (a : List Int) : List Int := a.drop (a.length / 64 * 64)
theorem restL_len (a : List Int) : (restL a).length = a.length % 64 := by unfold restL; rw [List.length_drop]; omega
theorem mill_append (hs a b : List Int) : mill (mill hs a) (restL a ++ b) = mill hs (a ++ b) := by
  unfold mill restL
  have e1 : (a ++ b).length / 64 = a.length / 64 + (a.drop (a.length / 64 * 64) ++ b).length / 64 := by
    rw [List.length_append, List.length_append, List.length_drop]; omega
  rw [e1, grindN_add, grindN_left hs a b _ (by omega), List.drop_append_of_le_length (by omega), Nat.mul_comm 64]
theorem restL_append (a b : List Int) : restL (restL a ++ b) = restL (a ++ b) := by
  unfold restL
  have e2 : a.length / 64 * 64 + (a.length - a.length / 64 * 64) = a.length := by omega
  have e1 : (a ++ b).length / 64 * 64 = a.length / 64 * 64 + (a.drop (a.length / 64 * 64) ++ b).length / 64 * 64 := by
    rw [List.length_append, List.length_append, List.length_drop]; omega
  have e3 : (a ++ b).drop (a.length / 64 * 64) = a.drop (a.length / 64 * 64) ++ b := List.drop_append_of_le_length (by omega)
  rw [e1, ← List.drop_drop, e3]
theorem restL_nil : restL [] = [] := rfl
theorem restL_rest (a : List Int) : restL (restL a) = restL a := by
  have := restL_append a []
  rwa [List.append_nil, List.append_nil] at this
theorem mill_nil (hs : List Int) : mill hs [] = hs := rfl
theorem mill_rest (hs a : List Int) : mill (mill hs a) (restL a) = mill hs a := by
  have := mill_append hs a []
  rwa [List.append_nil, List.append_nil] at this
/-- The digest of bytes. -/
def ofL (bs : List Int) : List Int := wr32 (mill v0c.list (bs ++ tailL bs.length)) 32
theorem ofL_len (bs : List Int) : (ofL bs).length = 32 := wr32_len _ _
theorem endL_of (bs : List Int) : endL (mill v0c.list bs) (restL bs) bs.length = ofL bs := by
  unfold endL ofL
  rw [mill_append]
theorem Bytes8.rest {a : List Int} (h : Bytes8 a) : Bytes8 (restL a) := h.drop _

end Go.Proofs.YthdldmkeoglflaaDoor

/- Arrays of integers compared; SameBytes and Same of the reference, where both are the same. -/
namespace Go.Proofs.YthdldmkeoglflaaDoor
set_option maxRecDepth 100000
set_option linter.unusedSimpArgs false
set_option linter.unusedVariables false
set_option linter.unnecessarySimpa false
open Go.RowKit

theorem all_range_eqI : ∀ (xs ys : List Int), xs.length = ys.length → ((List.range xs.length).all fun i => xs.getD i 0 == ys.getD i 0) = (xs == ys)
  | [], [], _ => rfl
  | x :: xs, y :: ys, h => by
    have ih := all_range_eqI xs ys (by simpa using h)
    rw [List.length_cons, List.range_succ_eq_map, List.all_cons, List.all_map]
    simp only [List.getD_cons_zero, Function.comp_def, List.getD_cons_succ, ih]
    simp [List.cons_beq_cons]
  | [], _ :: _, h => by simp at h
  | _ :: _, [], h => by simp at h
section
variable {P : Program} (w : World)
theorem run_equalIn_ints (d : Nat) (t e : TypeId) (n : Nat) (k : IntKind) (ht : P.underlying t = some (.array n e)) (he : P.underlying e = some (.int k)) (hsz : ∀ w, (sizeOf e).run P w = .ok 1 w)
    (xs ys : List Int) (hx : xs.length = n) (hy : ys.length = n) :
    (Op.equalIn (d + 2) t (.agg (xs.map (Value.int k)).toArray) (.agg (ys.map (Value.int k)).toArray)).run P w = .ok (xs == ys) w := by
  rw [← all_range_eqI xs ys (hx.trans hy.symm), hx, List.range_eq_range', Op.equalIn]
  simp only [Sem.run_bind, run_underlying ht, Result.andThen_ok, hsz, Std.Legacy.Range.forIn_eq_forIn_range', Std.Legacy.Range.size, Nat.sub_zero, Nat.add_sub_cancel, Nat.div_one]
  have hl : ∀ i ∈ List.range' 0 n 1, i < n := fun i hi => by simpa using (List.mem_range'_1.1 hi).2
  generalize List.range' 0 n 1 = l at hl ⊢
  induction l with
  | nil => simp
  | cons i l ih =>
    have hi : i < n := hl i (by simp)
    have px : (part e (xs.map (Value.int k)).toArray (i * 1)).run P w = .ok (.int k (xs.getD i 0)) w := by
      simp [part, isAgg, run_underlying he, List.getD, List.getElem?_eq_getElem (show i < xs.length by omega)]
    have py : (part e (ys.map (Value.int k)).toArray (i * 1)).run P w = .ok (.int k (ys.getD i 0)) w := by
      simp [part, isAgg, run_underlying he, List.getD, List.getElem?_eq_getElem (show i < ys.length by omega)]
    have pe : (Op.equalIn (d + 1) e (.int k (xs.getD i 0)) (.int k (ys.getD i 0))).run P w = .ok (xs.getD i 0 == ys.getD i 0) w := run_equalIn_int w d e k k _ _ he
    simp only [List.forIn_cons, Sem.run_bind, px, py, pe, Result.andThen_ok, List.all_cons]
    cases hb : (xs.getD i 0 == ys.getD i 0)
    · simp
    · simp only [Bool.not_true, Bool.false_eq_true, if_false, Sem.run_pure, Result.andThen_ok, Bool.true_and]
      exact ih fun j hj => hl j (by simp [hj])
end
theorem hsz_u8 (w : World) : (sizeOf 5).run Tryd.prog w = .ok 1 w := by kernel_rfl
theorem hsz_u32 (w : World) : (sizeOf 24).run Tryd.prog w = .ok 1 w := by kernel_rfl
/-- Two ids compared by '=='. -/
theorem eq_ids (xs ys : List Int) (hx : xs.length = 32) (hy : ys.length = 32) (w : World) : (Op.equalIn 10000 138 (.agg (xs.map (Value.int .u8)).toArray) (.agg (ys.map (Value.int .u8)).toArray)).run Tryd.prog w = .ok (xs == ys) w :=
  run_equalIn_ints w 9998 138 5 32 .u8 Tryd.underlying138 Tryd.underlying5 hsz_u8 xs ys hx hy
theorem eq_words (v u : V8) (w : World) : (Op.equalIn 10000 157 (.agg #[.int .u32 v.a, .int .u32 v.b, .int .u32 v.c, .int .u32 v.d, .int .u32 v.e, .int .u32 v.f, .int .u32 v.g, .int .u32 v.z]) (.agg #[.int .u32 u.a, .int .u32 u.b, .int .u32 u.c, .int .u32 u.d, .int .u32 u.e, .int .u32 u.f, .int .u32 u.g, .int .u32 u.z])).run Tryd.prog w = .ok (v.list == u.list) w :=
  run_equalIn_ints w 9998 157 24 8 .u32 Tryd.underlying157 Tryd.underlying24 hsz_u32 v.list u.list rfl rfl

end Go.Proofs.YthdldmkeoglflaaDoor

/- DigestMills: the law's function returns true. -/
namespace Go.Proofs.YthdldmkeoglflaaDoor
set_option maxRecDepth 100000
set_option linter.unusedSimpArgs false
set_option linter.unusedVariables false
set_option linter.unnecessarySimpa false
open Go.RowKit

/-- What the walk is told of a mill and of bytes that came in. -/
structure MillIn (w : World) (v : V8) (rs : List Int) (N : Int) (ra : Option Addr) : Prop where
  ok : v.ok
  cells : CellsAt w ra (rs.map (Value.int .u8))
  bytes : Bytes8 rs
  len : rs.length ≤ maxLen
structure BytesIn (w : World) (a : Option Addr) (bs : List Int) : Prop where
  cells : CellsAt w a (bs.map (Value.int .u8))
  bytes : Bytes8 bs
  len : bs.length ≤ maxLen
theorem nilCells (w : World) (a : Option Addr) (k : IntKind) : CellsAt w a (([] : List Int).map (Value.int k)) := .inl rfl
def VBlk (B t : Nat) (cs : List Value) : Value → World → Prop := fun v w => ∃ b, v = .pointer (some ⟨b, 0, none⟩) ∧ B ≤ b ∧ Blk w b t cs
theorem VBlk.last {B t : Nat} {cs : List Value} (v : Value) (w w' : World) (h : VBlk B t cs v w) (hb : Below w.heap.size w w') : VBlk B t cs v w' :=
  let ⟨b, hv, hB, hc⟩ := h
  ⟨b, hv, hB, hc.later hb⟩
/-- A row that lies apart from another's block, where both hold something. -/
def VCupA (B : Nat) (e : TypeId) (size n : Nat) (cs ys : List Value) (u : Value) : Value → World → Prop := fun v w => VCup B e size n cs v w ∧ (ys = [] ∨ cs = [] ∨ ∀ k, u.ownBlock = some k → v.ownBlock ≠ some k)
theorem VCupA.last {B : Nat} {e : TypeId} {size n : Nat} {cs ys : List Value} {u : Value} (v : Value) (w w' : World) (h : VCupA B e size n cs ys u v w) (hb : Below w.heap.size w w') : VCupA B e size n cs ys u v w' := ⟨VCup.last v w w' h.1 hb, h.2⟩
theorem CupX.ne_blk {w : World} {base : Nat} {e t : TypeId} {size : Nat} {a : Option Addr} {n m c B : Nat} {xs cs : List Value} (h : CupX w base e size (.slice a m c) n xs) (hb : Blk w B t cs) (ht : e ≠ t) (hx : xs ≠ []) : ∀ ad, a = some ad → ad.block ≠ B := by
  intro ad had e'
  subst had
  rcases h with h | ⟨_, h, _⟩
  · rcases h.2 with ⟨h1, _⟩ | ⟨g, cap, cur, h1, _, h2, _⟩
    · cases h1
    · cases h1
      simp only at e'
      subst e'
      have := h2.symm.trans hb
      simp at this
      exact ht this.2
  · exact hx h

theorem CupX.mono {w : World} {base base' : Nat} {e : TypeId} {size : Nat} {v : Value} {n : Nat} {xs : List Value} (h : CupX w base e size v n xs) (hb : base' ≤ base) : CupX w base' e size v n xs := by
  rcases h with h | h
  · exact .inl (h.mono hb)
  · exact .inr h
theorem CupX.apart {w w' : World} {B : Nat} {e : TypeId} {size n m c : Nat} {xs ys : List Value} {u : Value} {a : Option Addr} (h : VCup B e size n xs u w) (k : CupX w' w.heap.size e size (.slice a m c) m ys) :
    xs = [] ∨ ys = [] ∨ ∀ k, u.ownBlock = some k → (Value.slice a m c).ownBlock ≠ some k := by
  by_cases hx : xs = []
  · exact .inl hx
  by_cases hy : ys = []
  · exact .inr (.inl hy)
  refine .inr (.inr fun q h1 h2 => ?_)
  obtain ⟨a5, c5, rfl, h5⟩ := h
  cases a5 with
  | none => simp [Value.ownBlock] at h1
  | some ad =>
    cases a with
    | none => simp [Value.ownBlock] at h2
    | some ae =>
      have e1 := (h5.addr hx ad rfl).2
      have e2 := (k.addr hy ae rfl).1
      simp [Value.ownBlock] at h1 h2
      omega

theorem gb_setCells {w0 : World} {B : Nat} : ∀ (vs : List Value) (o : Nat) (w : World), w0.grownBy w (some B) → w0.grownBy (w.setCells B o vs) (some B)
  | [], _, _, h => h
  | v :: vs, o, w, h => gb_setCells vs (o + 1) _ (gb_setCell h o v)
theorem CupX.setCellsFar {w : World} {base : Nat} {e t : TypeId} {size : Nat} {a : Option Addr} {n m c B : Nat} {xs cs : List Value} (h : CupX w base e size (.slice a m c) n xs) (hb : Blk w B t cs) (ht : e ≠ t) (vs : List Value) : CupX (w.setCells B 0 vs) base e size (.slice a m c) n xs := by
  by_cases hx : xs = []
  · rcases h with h | h
    · refine .inl (h.kept (row := some B) (gb_setCells _ _ _ (World.grownBy.refl _ _)) ?_)
      cases a with
      | none => left; rfl
      | some ad =>
        right
        intro e'
        simp only [Value.ownBlock, Option.some.injEq] at e'
        rcases h.2 with ⟨h1, _⟩ | ⟨g, cap, cur, h1, _, h2, _⟩
        · cases h1
        · cases h1
          simp only at e'
          subst e'
          have := h2.symm.trans hb
          simp at this
          exact ht this.2
    · exact .inr h
  · have hne := h.ne_blk hb ht hx
    rcases h with h | h
    · refine .inl (h.kept (row := some B) (gb_setCells _ _ _ (World.grownBy.refl _ _)) ?_)
      cases a with
      | none => left; rfl
      | some ad =>
        right
        intro e'
        simp only [Value.ownBlock, Option.some.injEq] at e'
        exact hne ad rfl e'
    · exact .inr h
/-- A result: an id, an error. -/
def IdR (e : Ending) (dv : List Value) (de : Int) : Prop := e = .returned (.tuple #[.agg dv.toArray, .int .i64 de])
theorem endM_len (hs rs : List Int) (N : Int) : (endM hs rs N).1.length = 32 := by
  unfold endM
  split
  · simp
  · simp only [endL_len]
theorem infoM : (Tryd.prog.info? 159).map (·.size) = some 10 := by kernel_rfl

theorem addM_rest (hs rs ys : List Int) (N : Int) : (addM hs rs N ys).2.1.length ≤ rs.length + ys.length := by
  unfold addM
  split
  · simp
  · split
    · simp
    · simp only [List.length_drop, List.length_append]; omega

theorem Bytes8.set {l : List Int} (h : Bytes8 l) (i : Nat) (x : Int) (hx : 0 ≤ x ∧ x < 256) : Bytes8 (l.set i x) := fun y hy => by
  rcases List.mem_or_eq_of_mem_set hy with h1 | h1
  · exact h y h1
  · subst h1; exact hx
def RowU (w : World) (B e : Nat) (a : Option Addr) (n c : Nat) : Prop := 0 < n → ∃ ys : List Int, ys.length = n ∧ Bytes8 ys ∧ OwnX w B e 1 (.slice a n c) n (ys.map (Value.int .u8))
theorem gb_row {w w1 : World} {b : Nat} {a : Option Addr} {xs : List Int} (hc : CellsAt w a (xs.map (Value.int .u8))) (h : w.grownBy w1 (some b)) (hne : xs ≠ [] → ∀ ad, a = some ad → ad.block ≠ b) : CellsAt w1 a (xs.map (Value.int .u8)) := by
  by_cases hx : xs = []
  · subst hx; exact .inl rfl
  · exact gb_cells h hc (hne hx)

end Go.Proofs.YthdldmkeoglflaaDoor

/- Arguments as they come in: arrays of integers, mills, ids, pieces. -/
namespace Go.Proofs.YthdldmkeoglflaaDoor
set_option maxRecDepth 100000
open Go.RowKit Go.Joins Go.ChangeShapes Go.WideShapes Go.ChangeAt

section
variable {H : Type} {enc : TypeId × Value → H} {P : Program} {w : World} {base : Nat} {held : Bool}
/-- The cells of an array of integers. -/
theorem arr_ints {t e : TypeId} {n fuel : Nat} {k : IntKind} {cs : List Value} {x : DataW H × List MemPlace} (ht : P.underlying t = some (.array n e)) (he : P.underlying e = some (.int k)) (hc : P.cellsOf e = 1) (hct : P.cellsOf t = n)
    (h : DataW.trod enc P w base (fun _ => true) held fuel t cs = some x) : ∃ zs : List Int, cs = zs.map (Value.int k) ∧ zs.length = n ∧ ∀ z ∈ zs, (Lit.int k z).wf = true := by
  obtain ⟨xs, m, rfl, _, hl, hxl, hel⟩ := DataW.trod_array ht h
  rw [hct] at hl
  rw [hc] at hel
  have each : ∀ i, i < n → ∃ z : Int, cs[i]? = some (.int k z) ∧ (Lit.int k z).wf = true := fun i hi => by
    have h1 := hel i hi
    rw [Nat.mul_one, List.getElem?_eq_getElem (show i < xs.length by omega)] at h1
    have h2 : (cs.drop i).take 1 = [cs[i]'(by omega)] := by
      rw [List.drop_eq_getElem_cons (by omega)]; rfl
    rw [h2] at h1
    obtain ⟨z, e0, _, w0⟩ := DataW.trod_int he h1
    simp at e0
    exact ⟨z, by rw [List.getElem?_eq_getElem (by omega), e0], w0⟩
  refine ⟨cs.map fun v => match v with | .int _ z => z | _ => 0, ?_, by simpa using hl, fun z hz => ?_⟩
  · apply List.ext_getElem?
    intro i
    by_cases hi : i < n
    · obtain ⟨z, h1, _⟩ := each i hi
      simp [List.getElem?_map, h1]
    · simp [List.getElem?_eq_none (show cs.length ≤ i by omega)]
  · obtain ⟨v, hv, rfl⟩ := List.mem_map.1 hz
    obtain ⟨i, hi, rfl⟩ := List.mem_iff_getElem.1 hv
    obtain ⟨z, h1, h2⟩ := each i (by omega)
    rw [List.getElem?_eq_getElem hi] at h1
    simp only [Option.some.injEq] at h1
    rw [h1]; exact h2
theorem okWide_arr {r : Reach} {b0 n : Nat} {t e : TypeId} {v : Value} (ht : P.underlying t = some (.array n e)) (h : Value.okWide P w r b0 t v) : ∃ cs, v = .agg cs ∧ cs.size = P.cellsOf t := by
  simp only [Value.okWide, ht] at h
  obtain ⟨cs, h1, h2, _⟩ := h
  exact ⟨cs, h1, h2⟩
/-- An array of integers that came in. -/
theorem open_arr {r : Reach} {b0 n : Nat} {t e : TypeId} {k : IntKind} {v : Value} {d : DataW H} {p : List MemPlace} (ht : P.underlying t = some (.array n e)) (he : P.underlying e = some (.int k)) (hc : P.cellsOf e = 1) (hct : P.cellsOf t = n)
    (hv : Value.okWide P w r b0 t v) (h : DataW.Trod enc P w base (fun _ => true) held t v d p) : ∃ zs : List Int, v = .agg (zs.map (Value.int k)).toArray ∧ zs.length = n ∧ ∀ z ∈ zs, (Lit.int k z).wf = true := by
  obtain ⟨cs, rfl, hs⟩ := okWide_arr ht hv
  obtain ⟨fuel, hf⟩ := h
  obtain ⟨zs, h1, h2, h3⟩ := arr_ints ht he hc hct hf
  refine ⟨zs, ?_, h2, h3⟩
  rw [← h1]
  simp [Value.cells]
end

theorem cells_mill : Tryd.prog.cellsOf 159 = 10 := by kernel_rfl
theorem cells_u8 : Tryd.prog.cellsOf 5 = 1 := by kernel_rfl
theorem cells_u32 : Tryd.prog.cellsOf 24 = 1 := by kernel_rfl
theorem cells_int : Tryd.prog.cellsOf 3 = 1 := by kernel_rfl
theorem cells_w8 : Tryd.prog.cellsOf 157 = 8 := by kernel_rfl
theorem cells_id : Tryd.prog.cellsOf 138 = 32 := by kernel_rfl
theorem cells_by : Tryd.prog.cellsOf 43 = 1 := by kernel_rfl
theorem u8_bytes {xs : List Int} (h : ∀ x ∈ xs, (Lit.int .u8 x).wf = true) : Bytes8 xs := fun x hx => bd_u8 (h x hx)
theorem v8_ok {l : List Int} (h : ∀ x ∈ l, (Lit.int .u32 x).wf = true) {v : V8} (hv : v.list = l) : v.ok := by
  have : Rng32 l := fun x hx => bd_u32 (h x hx)
  rw [← hv] at this
  exact V8.of_ok this

theorem open_mill {H : Type} {enc : TypeId × Value → H} {w : World} {r : Reach} {b0 base : Nat} {held : Bool} {v : Value} {d : DataW H} {p : List MemPlace}
    (hv : Value.okWide Tryd.prog w r b0 159 v) (h : DataW.Trod enc Tryd.prog w base (fun _ => true) held 159 v d p) :
    ∃ (u : V8) (rs : List Int) (N : Int) (a : Option Addr) (c : Nat), v = .agg #[.int .u32 u.a, .int .u32 u.b, .int .u32 u.c, .int .u32 u.d, .int .u32 u.e, .int .u32 u.f, .int .u32 u.g, .int .u32 u.z, .slice a rs.length c, .int .i64 N] ∧ MillIn w u rs N a := by
  obtain ⟨cs, rfl, hs⟩ := okWide_struct Tryd.underlying159 hv
  rw [cells_mill] at hs
  obtain ⟨fuel, hf⟩ := h
  obtain ⟨xs, n, rfl, _, _, hxl, hfl⟩ := DataW.trod_struct Tryd.underlying159 hf
  have f0 := hfl 0 _ rfl
  have f1 := hfl 1 _ rfl
  have f2 := hfl 2 _ rfl
  simp only [Value.cells] at f0 f1 f2
  obtain ⟨l, rfl⟩ : ∃ l : List Value, cs = l.toArray := ⟨cs.toList, by simp⟩
  simp only [List.size_toArray] at hs
  match l, hs with
  | [c0, c1, c2, c3, c4, c5, c6, c7, c8, c9], _ =>
    simp at hxl
    match xs, hxl with
    | [x0, x1, x2], _ =>
      obtain ⟨zs, e0, hz, wz⟩ := arr_ints Tryd.underlying157 Tryd.underlying24 cells_u32 cells_w8 f0
      obtain ⟨a, c, rs, e1, h2, h3, w1⟩ := open_rowX Tryd.underlying43 Tryd.underlying5 cells_u8 f1
      obtain ⟨N, e2, _, w2⟩ := DataW.trod_int (k := .i64) Tryd.underlying3 f2
      obtain ⟨u, hu⟩ := V8.of_list zs hz
      rw [← hu] at e0
      simp [V8.list, cells_int] at e0 e1 e2
      obtain ⟨rfl, rfl, rfl, rfl, rfl, rfl, rfl, rfl⟩ := e0
      subst e1 e2
      exact ⟨u, rs, N, a, c, rfl, v8_ok wz hu, h2, u8_bytes w1, h3⟩
theorem open_bytes8 {H : Type} {enc : TypeId × Value → H} {w : World} {r : Reach} {b0 base : Nat} {held : Bool} {v : Value} {d : DataW H} {p : List MemPlace}
    (hv : Value.okWide Tryd.prog w r b0 43 v) (h : DataW.Trod enc Tryd.prog w base (fun _ => true) held 43 v d p) :
    ∃ (bs : List Int) (a : Option Addr) (c : Nat), v = .slice a bs.length c ∧ BytesIn w a bs := by
  obtain ⟨a0, l0, c0, rfl⟩ := okWide_slice Tryd.underlying43 hv
  obtain ⟨fuel, hf⟩ := h
  obtain ⟨a, c, bs, e, h2, h3, w1⟩ := open_rowX Tryd.underlying43 Tryd.underlying5 cells_u8 hf
  exact ⟨bs, a, c, e, h2, u8_bytes w1, h3⟩
/-- An id that came in. -/
structure IdIn (xs : List Int) : Prop where
  len : xs.length = 32
  bytes : Bytes8 xs
theorem open_id {H : Type} {enc : TypeId × Value → H} {w : World} {r : Reach} {b0 base : Nat} {held : Bool} {v : Value} {d : DataW H} {p : List MemPlace}
    (hv : Value.okWide Tryd.prog w r b0 138 v) (h : DataW.Trod enc Tryd.prog w base (fun _ => true) held 138 v d p) :
    ∃ xs : List Int, v = .agg (xs.map (Value.int .u8)).toArray ∧ IdIn xs := by
  obtain ⟨zs, h1, h2, h3⟩ := open_arr Tryd.underlying138 Tryd.underlying5 cells_u8 cells_id hv h
  exact ⟨zs, h1, h2, u8_bytes h3⟩
theorem open_words {H : Type} {enc : TypeId × Value → H} {w : World} {r : Reach} {b0 base : Nat} {held : Bool} {v : Value} {d : DataW H} {p : List MemPlace}
    (hv : Value.okWide Tryd.prog w r b0 157 v) (h : DataW.Trod enc Tryd.prog w base (fun _ => true) held 157 v d p) :
    ∃ u : V8, v = .agg #[.int .u32 u.a, .int .u32 u.b, .int .u32 u.c, .int .u32 u.d, .int .u32 u.e, .int .u32 u.f, .int .u32 u.g, .int .u32 u.z] ∧ u.ok := by
  obtain ⟨zs, h1, h2, h3⟩ := open_arr Tryd.underlying157 Tryd.underlying24 cells_u32 cells_w8 hv h
  obtain ⟨u, hu⟩ := V8.of_list zs h2
  exact ⟨u, by rw [h1, ← hu]; rfl, v8_ok h3 hu⟩
/-- A slice of bytes in memory, as a cell. -/
def PieceAt (w : World) (v : Value) (bs : List Int) : Prop := ∃ a c, v = .slice a bs.length c ∧ CellsAt w a (bs.map (Value.int .u8)) ∧ Bytes8 bs ∧ bs.length ≤ maxLen
/-- Pieces: cells, each a slice of bytes. -/
def PiecesAt (w : World) : List Value → List (List Int) → Prop
  | [], [] => True
  | v :: vs, bs :: l => PieceAt w v bs ∧ PiecesAt w vs l
  | _, _ => False
structure PiecesIn (w : World) (a : Option Addr) (vs : List Value) (l : List (List Int)) : Prop where
  cells : CellsAt w a vs
  all : PiecesAt w vs l
  vlen : vs.length = l.length
  len : l.length ≤ maxLen
theorem pieces_of {w : World} : ∀ rs : List (List Value), (∀ r ∈ rs, r.length = 1 ∧ ∃ u bs, r = [u] ∧ PieceAt w u bs) → ∃ l, PiecesAt w rs.flatten l ∧ rs.length = l.length ∧ rs.flatten.length = l.length
  | [], _ => ⟨[], trivial, rfl, rfl⟩
  | r :: rs, h => by
    obtain ⟨l, e1, e2, e3⟩ := pieces_of rs fun x hx => h x (List.mem_cons_of_mem _ hx)
    obtain ⟨_, u, bs, rfl, hb⟩ := h r (List.mem_cons_self ..)
    exact ⟨bs :: l, ⟨hb, e1⟩, by simp [e2], by simp [e3]⟩
theorem open_pieces {H : Type} {enc : TypeId × Value → H} {w : World} {r : Reach} {b0 base : Nat} {held : Bool} {v : Value} {d : DataW H} {p : List MemPlace}
    (hv : Value.okWide Tryd.prog w r b0 141 v) (h : DataW.Trod enc Tryd.prog w base (fun _ => true) held 141 v d p) :
    ∃ (l : List (List Int)) (vs : List Value) (a : Option Addr) (c : Nat), v = .slice a l.length c ∧ PiecesIn w a vs l := by
  obtain ⟨a0, l0, c0, rfl⟩ := okWide_slice Tryd.underlying141 hv
  obtain ⟨fuel, hf⟩ := h
  obtain ⟨a, c, rs, e3, h2, h3, h4⟩ := open_rowG (fun r => ∃ u bs, r = [u] ∧ PieceAt w u bs) Tryd.underlying141 cells_by (by omega) (fun n cs x hx hl => by
    match cs, hl with
    | [u], _ =>
      obtain ⟨a, c, bs, e, h2, h3, w1⟩ := open_rowX Tryd.underlying43 Tryd.underlying5 cells_u8 hx
      exact ⟨u, bs, rfl, a, c, e, h2, u8_bytes w1, h3⟩) hf
  obtain ⟨l, e4, e5, e6⟩ := pieces_of rs h4
  exact ⟨l, rs.flatten, a, c, by rw [← e5]; exact e3, h2, e4, e6, by rw [← e5]; exact h3⟩

end Go.Proofs.YthdldmkeoglflaaDoor

/- Cmp, of the program and of the reference: ids compared from the first byte on. -/
namespace Go.Proofs.YthdldmkeoglflaaDoor
set_option maxRecDepth 100000
set_option linter.unusedSimpArgs false
set_option linter.unusedVariables false
set_option linter.unnecessarySimpa false
open Go.RowKit

/-- Bytes compared from the first on. -/
def cmpZ : List Int → List Int → Int
  | [], [] => 0
  | [], _ :: _ => -1
  | _ :: _, [] => 1
  | a :: xs, b :: ys => if a < b then -1 else if b < a then 1 else cmpZ xs ys
theorem u8_lt {a b : Int} (ha : 0 ≤ a ∧ a < 256) (hb : 0 ≤ b ∧ b < 256) : (a.toNat.toUInt8 < b.toNat.toUInt8) ↔ a < b := by
  rw [UInt8.lt_iff_toNat_lt]
  simp only [Nat.toUInt8, UInt8.toNat_ofNat']
  rw [Nat.mod_eq_of_lt (by omega), Nat.mod_eq_of_lt (by omega)]
  omega
theorem cmpZ_eq : ∀ {xs ys : List Int}, Bytes8 xs → Bytes8 ys → Lib.compareBytes (Lib.bytesOf xs) (Lib.bytesOf ys) = cmpZ xs ys
  | [], [], _, _ => rfl
  | [], _ :: _, _, _ => rfl
  | _ :: _, [], _, _ => rfl
  | a :: xs, b :: ys, hx, hy => by
    have ha := hx a (List.mem_cons_self ..)
    have hb := hy b (List.mem_cons_self ..)
    have ih := cmpZ_eq (xs := xs) (ys := ys) (fun x h => hx x (List.mem_cons_of_mem _ h)) (fun x h => hy x (List.mem_cons_of_mem _ h))
    show (if a.toNat.toUInt8 < b.toNat.toUInt8 then -1 else if b.toNat.toUInt8 < a.toNat.toUInt8 then 1 else Lib.compareBytes (Lib.bytesOf xs) (Lib.bytesOf ys)) = if a < b then -1 else if b < a then 1 else cmpZ xs ys
    simp only [u8_lt ha hb, u8_lt hb ha, ih]
section
variable {P : Program} (w : World)
theorem run_bytesOf_row (b off n c : Nat) (xs : List Int) (hx : xs.length = n) (hc : ∀ i, i < n → w.cell? ⟨b, off + i, none⟩ = some (.int .u8 (xs[i]?.getD 0))) :
    (Extern.Bytes.bytesOf (.slice (some ⟨b, off, none⟩) n c)).run P w = .ok ⟨(Lib.bytesOf xs).toArray⟩ w := by
  have hl := Lib.run_loadBytesX (P := P) w xs ⟨b, off, none⟩ .empty (fun j x hj => by
    have hjl : j < xs.length := (List.getElem?_eq_some_iff.1 hj).1
    have e : (⟨b, off, none⟩ : Addr).add j = ⟨b, off + j, none⟩ := by unfold Addr.add; split <;> simp_all
    rw [e, hc j (by omega), hj]
    rfl)
  rw [hx] at hl
  unfold Extern.Bytes.bytesOf
  rw [hl]
  congr 1
  simp
theorem run_compare_rows (b off n c b' off' n' c' : Nat) (xs ys : List Int) (hx : xs.length = n) (hy : ys.length = n') (h8 : Bytes8 xs) (k8 : Bytes8 ys)
    (hc : ∀ i, i < n → w.cell? ⟨b, off + i, none⟩ = some (.int .u8 (xs[i]?.getD 0))) (kc : ∀ i, i < n' → w.cell? ⟨b', off' + i, none⟩ = some (.int .u8 (ys[i]?.getD 0))) :
    (Extern.BytealgCompare.compare #[.slice (some ⟨b, off, none⟩) n c, .slice (some ⟨b', off', none⟩) n' c']).run P w = .ok (.int .i64 (cmpZ xs ys)) w := by
  change Sem.run P (do pure (goInt (Extern.BytealgCompare.cmp (← Extern.Bytes.bytesOf (.slice (some ⟨b, off, none⟩) n c)) (← Extern.Bytes.bytesOf (.slice (some ⟨b', off', none⟩) n' c'))))) w = _
  simp only [Sem.run_bind, run_bytesOf_row w b off n c xs hx hc, run_bytesOf_row w b' off' n' c' ys hy kc, Result.andThen]
  rw [Lib.cmp_eq, ← cmpZ_eq h8 k8]
  rfl
end

theorem cmpZ_drop {xs ys : List Int} {i : Nat} (hx : i < xs.length) (hy : i < ys.length) : cmpZ (xs.drop i) (ys.drop i) = if xs[i]?.getD 0 < ys[i]?.getD 0 then -1 else if ys[i]?.getD 0 < xs[i]?.getD 0 then 1 else cmpZ (xs.drop (i + 1)) (ys.drop (i + 1)) := by
  rw [List.drop_eq_getElem_cons hx, List.drop_eq_getElem_cons hy, List.getElem?_eq_getElem hx, List.getElem?_eq_getElem hy]
  rfl
end Go.Proofs.YthdldmkeoglflaaDoor

/- Pieces of bytes: what they are in memory; whether one is too long. -/
namespace Go.Proofs.YthdldmkeoglflaaDoor
set_option maxRecDepth 100000
set_option linter.unusedSimpArgs false
set_option linter.unusedVariables false
set_option linter.unnecessarySimpa false
open Go.RowKit

def pc (l : List (List Int)) (i : Nat) : List Int := l[i]?.getD []
theorem PieceAt.later {w w' : World} {v : Value} {bs : List Int} (h : PieceAt w v bs) (hb : Below w.heap.size w w') : PieceAt w' v bs :=
  let ⟨a, c, hv, hc, h8, hl⟩ := h
  ⟨a, c, hv, hc.later hb, h8, hl⟩
theorem PiecesAt.later {w w' : World} : ∀ {vs : List Value} {l : List (List Int)}, PiecesAt w vs l → Below w.heap.size w w' → PiecesAt w' vs l
  | [], [], _, _ => trivial
  | _ :: _, _ :: _, h, hb => ⟨h.1.later hb, PiecesAt.later h.2 hb⟩
  | [], _ :: _, h, _ => h.elim
  | _ :: _, [], h, _ => h.elim
theorem PiecesIn.later {w w' : World} {a : Option Addr} {vs : List Value} {l : List (List Int)} (h : PiecesIn w a vs l) (hb : Below w.heap.size w w') : PiecesIn w' a vs l := ⟨h.cells.later hb, h.all.later hb, h.vlen, h.len⟩
theorem PiecesAt.at {w : World} : ∀ {vs : List Value} {l : List (List Int)}, PiecesAt w vs l → ∀ i, i < l.length → ∃ v, vs[i]? = some v ∧ PieceAt w v (pc l i)
  | [], [], _, i, hi => by simp at hi
  | v :: vs, bs :: l, h, 0, _ => ⟨v, rfl, h.1⟩
  | v :: vs, bs :: l, h, i + 1, hi => by
    obtain ⟨u, h1, h2⟩ := PiecesAt.at h.2 i (by simpa using hi)
    exact ⟨u, by simpa using h1, by simpa [pc] using h2⟩
  | [], _ :: _, h, _, _ => h.elim
  | _ :: _, [], h, _, _ => h.elim
/-- One piece, in the walk's spelling. -/
theorem PiecesIn.at {w : World} {a : Option Addr} {vs : List Value} {l : List (List Int)} (h : PiecesIn w a vs l) {i : Nat} (hi : i < l.length) :
    ∃ (b o : Nat) (x : Option Addr) (n c : Nat), a = some ⟨b, o, none⟩ ∧ w.cell? ⟨b, o + i, none⟩ = some (.slice x n c) ∧ n = (pc l i).length ∧ CellsAt w x ((pc l i).map (Value.int .u8)) ∧ Bytes8 (pc l i) ∧ n ≤ maxLen := by
  obtain ⟨v, hv, x, c, rfl, h2, h3, h4⟩ := h.all.at i hi
  rcases h.cells with h0 | ⟨b, o, ha, hc⟩
  · subst h0; simp at hv
  · exact ⟨b, o, x, _, c, ha, hc i _ hv, rfl, h2, h3, h4⟩
def longB (bs : List Int) : Bool := decide ((10000 : Int) < (bs.length : Int))
theorem any_long_of {l : List (List Int)} {k : Nat} (hk : k < l.length) (h : longB (pc l k) = true) : l.any longB = true :=
  List.any_eq_true.2 ⟨pc l k, by unfold pc; rw [List.getElem?_eq_getElem hk]; exact List.getElem_mem hk, h⟩
theorem no_long_of {l : List (List Int)} (h : ∀ j, j < l.length → longB (pc l j) = false) : l.any longB = false := by
  rw [List.any_eq_false]
  intro x hx
  obtain ⟨j, hj, rfl⟩ := List.getElem_of_mem hx
  have := h j hj
  unfold pc at this
  rw [List.getElem?_eq_getElem hj] at this
  simpa using this
theorem pc_of_no {l : List (List Int)} (h : l.any longB = false) (j : Nat) : (pc l j).length ≤ 10000 := by
  unfold pc
  by_cases hj : j < l.length
  · rw [List.getElem?_eq_getElem hj]
    have := List.any_eq_false.1 h _ (List.getElem_mem hj)
    simp [longB] at this
    show (l[j]).length ≤ 10000
    omega
  · rw [List.getElem?_eq_none (by omega)]; simp

theorem tooLong_any (x : Option Addr) (n c : Nat) (w : World) :
    Calls Tryd.prog 117 #[.slice x n c] w fun e w' =>
      e = .returned (.bool (decide ((10000 : Int) < (n : Int)))) ∧ Below w.heap.size w w' := by
  go_enter Tryd.func117, Tryd.ntmps117
  have hb0 := Below.refl w.heap.size w
  go_wp2_with fail
  go_ret
  exact ⟨rfl, by repeat' (first | with_reducible exact hb0 | with_reducible refine Below.drew ?_ | with_reducible refine below_drewN ?_ _ | with_reducible refine Below.alloc ?_ (by have := hb0.size; first | (simp; done) | (simp; omega) | omega) _ | with_reducible refine Below.setCell ?_ (by first | (simp; done) | (simp; omega) | omega) _)⟩

/-- What IndexFunc hands back here. -/
def IdxR (l : List (List Int)) (e : Ending) : Prop := ∃ r : Int, e = .returned (.int .i64 r) ∧ decide (0 ≤ r) = l.any longB
set_option maxHeartbeats 1000000 in
theorem didxP_any (l : List (List Int)) (vs : List Value) (a : Option Addr) (n c : Nat) (w : World) (hP : PiecesIn w a vs l) (hn : n = l.length) :
    Calls Tryd.prog 129 #[.slice a n c, .func (.func 117) #[] #[]] w fun e w' =>
      IdxR l e ∧ Below w.heap.size w w' := by
  have hml := hP.len
  unfold maxLen at hml
  rw [← hn] at hml
  have H_hn := hid hn
  clear hn
  go_enter Tryd.func129, Tryd.ntmps129
  have hb0 := Below.refl w.heap.size w
  go_wp2_with fail
  go_loopw [8] (fun i wr => ∃ k : Nat, k ≤ n ∧ i = .int .i64 k ∧ Below w.heap.size w wr ∧ Hid (∀ j, j < k → longB (pc l j) = false)) (fun i _ => n - (intOf i).toNat)
  case atStart => exact ⟨0, Nat.zero_le _, rfl, (by repeat' (first | with_reducible exact hb0 | with_reducible refine Below.drew ?_ | with_reducible refine below_drewN ?_ _ | with_reducible refine Below.alloc ?_ (by have := hb0.size; first | (simp; done) | (simp; omega) | omega) _ | with_reducible refine Below.setCell ?_ (by first | (simp; done) | (simp; omega) | omega) _)), hid (fun j hj => by omega)⟩
  case round =>
    obtain ⟨k, hk, rfl, hbw, Hall⟩ := hrel
    by_cases hlt : k < n
    · have hlt' : (k : Int) < (n : Int) := by omega
      obtain ⟨b, o, x, m, cx, rfl, cc, hm, _⟩ := (hP.later hbw).at (i := k) (by have := H_hn.out; omega)
      have Hm := hid hm
      clear hm hP
      by_cases hp : (10000 : Int) < (m : Int)
      · have hlg := hid (any_long_of (l := l) (k := k) (by have := H_hn.out; omega) (by unfold longB; rw [← Hm.out]; simpa using hp))
        go_wp2_with fail
        with_reducible refine (tooLong_any x m cx _).mono ?_
        rintro e w11 ⟨rfl, hc11⟩
        have hb11 : Below w.heap.size w w11 := bchain (by repeat' (first | with_reducible exact hbw | with_reducible refine Below.drew ?_ | with_reducible refine below_drewN ?_ _ | with_reducible refine Below.alloc ?_ (by have := hbw.size; first | (simp; done) | (simp; omega) | omega) _ | with_reducible refine Below.setCell ?_ (by first | (simp; done) | (simp; omega) | omega) _)) hc11
        clear hc11 hbw
        go_wp2_with fail
        go_ret
        refine ⟨⟨_, rfl, ?_⟩, (by repeat' (first | with_reducible exact hb11 | with_reducible refine Below.drew ?_ | with_reducible refine below_drewN ?_ _ | with_reducible refine Below.alloc ?_ (by have := hb11.size; first | (simp; done) | (simp; omega) | omega) _ | with_reducible refine Below.setCell ?_ (by first | (simp; done) | (simp; omega) | omega) _))⟩
        rw [hlg.out]; simp
      · have hp' : (m : Int) ≤ 10000 := by omega
        go_wp2_with fail
        with_reducible refine (tooLong_any x m cx _).mono ?_
        rintro e w11 ⟨rfl, hc11⟩
        have hb11 : Below w.heap.size w w11 := bchain (by repeat' (first | with_reducible exact hbw | with_reducible refine Below.drew ?_ | with_reducible refine below_drewN ?_ _ | with_reducible refine Below.alloc ?_ (by have := hbw.size; first | (simp; done) | (simp; omega) | omega) _ | with_reducible refine Below.setCell ?_ (by first | (simp; done) | (simp; omega) | omega) _)) hc11
        clear hc11 hbw
        go_wp2_with fail
        go_roundw
        case rel => exact ⟨k + 1, by omega, by go_num, (by repeat' (first | with_reducible exact hb11 | with_reducible refine Below.drew ?_ | with_reducible refine below_drewN ?_ _ | with_reducible refine Below.alloc ?_ (by have := hb11.size; first | (simp; done) | (simp; omega) | omega) _ | with_reducible refine Below.setCell ?_ (by first | (simp; done) | (simp; omega) | omega) _)), hid (fun j hj => by
          by_cases hjk : j < k
          · exact Hall.out j hjk
          · obtain rfl : j = k := by omega
            unfold longB; rw [← Hm.out]; simpa using hp')⟩
        case measure => simp [intOf]; omega
    · have hge : (n : Int) ≤ (k : Int) := by omega
      go_wp2_with fail
      go_ret
      refine ⟨⟨_, rfl, ?_⟩, hbw⟩
      rw [no_long_of fun j hj => Hall.out j (by have := H_hn.out; omega)]; rfl
set_option maxHeartbeats 1000000 in
theorem hasLong_any (l : List (List Int)) (vs : List Value) (a : Option Addr) (n c : Nat) (w : World) (hP : PiecesIn w a vs l) (hn : n = l.length) :
    Calls Tryd.prog 116 #[.slice a n c, .func (.func 117) #[] #[]] w fun e w' =>
      e = .returned (.bool (l.any longB)) ∧ Below w.heap.size w w' := by
  have H_hn := hid hn
  clear hn
  go_enter Tryd.func116, Tryd.ntmps116
  have hb0 := Below.refl w.heap.size w
  go_wp2_with fail
  with_reducible refine (didxP_any l vs a n c _ hP H_hn.out).mono ?_
  rintro e w1 ⟨⟨r, rfl, hr⟩, hc1⟩
  have hb1 : Below w.heap.size w w1 := bchain (by repeat' (first | with_reducible exact hb0 | with_reducible refine Below.drew ?_ | with_reducible refine below_drewN ?_ _ | with_reducible refine Below.alloc ?_ (by have := hb0.size; first | (simp; done) | (simp; omega) | omega) _ | with_reducible refine Below.setCell ?_ (by first | (simp; done) | (simp; omega) | omega) _)) hc1
  clear hc1 hb0
  go_wp2_with fail
  go_ret
  exact ⟨rfl, by repeat' (first | with_reducible exact hb1 | with_reducible refine Below.drew ?_ | with_reducible refine below_drewN ?_ _ | with_reducible refine Below.alloc ?_ (by have := hb1.size; first | (simp; done) | (simp; omega) | omega) _ | with_reducible refine Below.setCell ?_ (by first | (simp; done) | (simp; omega) | omega) _)⟩

end Go.Proofs.YthdldmkeoglflaaDoor

/- Sum and Pieces, of the program and of the reference. -/
namespace Go.Proofs.YthdldmkeoglflaaDoor
set_option maxRecDepth 100000
set_option linter.unusedSimpArgs false
set_option linter.unusedVariables false
set_option linter.unnecessarySimpa false
open Go.RowKit

/-- What Pieces returns. -/
def sumP (l : List (List Int)) : List Int × Int := if 20 < l.length ∨ l.any longB = true then (List.replicate 32 0, 4) else (ofL l.flatten, 0)
theorem flat_take_succ {l : List (List Int)} {k : Nat} (h : k < l.length) : (l.take (k + 1)).flatten = (l.take k).flatten ++ pc l k := by
  rw [List.take_succ_eq_append_getElem h, List.flatten_append]
  simp [pc, List.getElem?_eq_getElem h]
theorem flat_lenP {l : List (List Int)} (h : l.any longB = false) : ∀ k, (l.take k).flatten.length ≤ 10000 * k
  | 0 => by simp
  | k + 1 => by
    by_cases hk : k < l.length
    · rw [flat_take_succ hk, List.length_append]
      have := flat_lenP h k
      have := pc_of_no h k
      omega
    · have := flat_lenP h k
      rw [List.take_of_length_le (by omega)] at this ⊢
      omega
theorem flat_bytes {w : World} {a : Option Addr} {vs : List Value} {l : List (List Int)} (h : PiecesIn w a vs l) : ∀ k, k ≤ l.length → Bytes8 (l.take k).flatten
  | 0, _ => fun x hx => by simp at hx
  | k + 1, hk => by
    rw [flat_take_succ (by omega)]
    obtain ⟨_, _, _, _, _, _, _, _, _, h8, _⟩ := h.at (i := k) (by omega)
    exact (flat_bytes h k (by omega)).append h8
/-- A mill that has ground the bytes, in memory. -/
def MillHas (w : World) (B : Nat) (bs : List Int) : Prop :=
  ∃ (u : V8) (a : Option Addr) (m c : Nat), Blk w B 159 [.int .u32 u.a, .int .u32 u.b, .int .u32 u.c, .int .u32 u.d, .int .u32 u.e, .int .u32 u.f, .int .u32 u.g, .int .u32 u.z, .slice a m c, .int .i64 bs.length] ∧ u.list = mill v0c.list bs ∧ m = (restL bs).length ∧ CellsAt w a ((restL bs).map (Value.int .u8))
theorem MillHas.later {w w' : World} {B : Nat} {bs : List Int} (h : MillHas w B bs) (hb : Below w.heap.size w w') : MillHas w' B bs :=
  let ⟨u, a, m, c, h1, h2, h3, h4⟩ := h
  ⟨u, a, m, c, h1.later hb, h2, h3, h4.later hb⟩

theorem mill_one (v : V8) (a : Option Addr) (m c : Nat) (N : Int) : ∀ u ∈ ([.int .u32 v.a, .int .u32 v.b, .int .u32 v.c, .int .u32 v.d, .int .u32 v.e, .int .u32 v.f, .int .u32 v.g, .int .u32 v.z, .slice a m c, .int .i64 N] : List Value), u.oneCell' = true := by
  intro u hu
  simp only [List.mem_cons, List.not_mem_nil, or_false] at hu
  rcases hu with rfl | rfl | rfl | rfl | rfl | rfl | rfl | rfl | rfl | rfl <;> rfl
set_option maxRecDepth 100000 in
set_option maxHeartbeats 4000000 in
theorem pieces_bad (l : List (List Int)) (vs : List Value) (a : Option Addr) (n c : Nat) (w : World) (hP : PiecesIn w a vs l) (hn : n = l.length) (hbad : 20 < n ∨ l.any longB = true) :
    Calls Tryd.prog 97 #[.slice a n c] w fun e w' =>
      e = idE (sumP l) ∧ Below w.heap.size w w' := by
  have HA := hid (show sumP l = (List.replicate 32 0, 4) by unfold sumP; rw [if_pos (by rw [← hn]; exact hbad)])
  by_cases h20 : 20 < n
  · have h20I : (20 : Int) < (n : Int) := by omega
    clear hn hbad
    go_enter Tryd.func97, Tryd.ntmps97
    have hb0 := Below.refl w.heap.size w
    go_wp2_with (refine wpList_store_blk rfl 138 _ _ rfl w.heap.size (by rfl) 138 _ (List.replicate 32 (Value.int .u8 0)) (by rfl) (Blk.newA _ _ _ _ (List.replicate 32 (Value.int .u8 0)) (by simp) (by rfl)) rfl info32r oneCell_zeros ?_; intro w7 hB7 he7; have H7 := hid he7; clear he7)
    go_wp2_with fail
    have hb7 : Below w.heap.size w w7 := H7.out ▸ below_setCells (Nat.le_refl _) _ _ _ ((Below.refl _ _).alloc (Nat.le_refl _) _)
    refine bodyPost_ret (results_blk2 (by rfl) _ _ w.heap.size 138 _ _ (.int .i64 4) rfl rfl hB7 Tryd.underlying138 rfl info32r) rfl ⟨?_, hb7⟩
    rw [HA.out, idE_mk]; simp
  · have hlg := hid (hbad.resolve_left h20)
    have h20I : (n : Int) ≤ 20 := by omega
    have hP1 := hP
    have H_hn := hid hn
    clear hn
    clear hbad h20
    go_enter Tryd.func97, Tryd.ntmps97
    have hb0 := Below.refl w.heap.size w
    go_wp2_with fail
    with_reducible refine (hasLong_any l vs a n c _ (hP.later ((Below.refl _ _).alloc (Nat.le_refl _) _)) H_hn.out).mono ?_
    rintro e w1 ⟨rfl, hc1⟩
    rw [hlg.out]
    have hI1 : Blk w1 w.heap.size 138 (List.replicate 32 (Value.int .u8 0)) := Blk.later (Blk.newA _ _ _ _ (List.replicate 32 (Value.int .u8 0)) (by simp) (by rfl)) hc1
    have hb1 : Below w.heap.size w w1 := bchain (by repeat' (first | with_reducible exact hb0 | with_reducible refine Below.drew ?_ | with_reducible refine below_drewN ?_ _ | with_reducible refine Below.alloc ?_ (by have := hb0.size; first | (simp; done) | (simp; omega) | omega) _ | with_reducible refine Below.setCell ?_ (by first | (simp; done) | (simp; omega) | omega) _)) hc1
    clear hc1
    go_wp2_with (refine wpList_store_blk rfl 138 _ _ rfl w.heap.size (by rfl) 138 _ (List.replicate 32 (Value.int .u8 0)) (by rfl) hI1 rfl info32r oneCell_zeros ?_; intro w7 hB7 he7; have H7 := hid he7; clear he7)
    go_wp2_with fail
    have hb7 : Below w.heap.size w w7 := H7.out ▸ below_setCells (Nat.le_refl _) _ _ _ hb1
    refine bodyPost_ret (results_blk2 (by rfl) _ _ w.heap.size 138 _ _ (.int .i64 4) rfl rfl hB7 Tryd.underlying138 rfl info32r) rfl ⟨?_, hb7⟩
    rw [HA.out, idE_mk]; simp

set_option maxRecDepth 100000 in
set_option maxHeartbeats 4000000 in
theorem pieces_ok (l : List (List Int)) (vs : List Value) (a : Option Addr) (n c : Nat) (w : World) (hP : PiecesIn w a vs l) (hn : n = l.length) (h20 : n ≤ 20) (hlong : l.any longB = false) (hK : CellsAt w (some ⟨6, 0, none⟩) (kcs.map (Value.int .u32))) (hw0 : 6 < w.heap.size) :
    Calls Tryd.prog 97 #[.slice a n c] w fun e w' =>
      e = idE (ofL l.flatten, 0) ∧ Below w.heap.size w w' := by
  have hlg := hid hlong
  have h20I : (n : Int) ≤ 20 := by omega
  have HFL := hid (flat_lenP hlong)
  have HF8 := hid (flat_bytes hP)
  have H_hn := hid hn
  clear hn
  clear hlong
  go_enter Tryd.func97, Tryd.ntmps97
  have hb0 := Below.refl w.heap.size w
  go_wp2_with fail
  with_reducible refine (hasLong_any l vs a n c _ (hP.later ((Below.refl _ _).alloc (Nat.le_refl _) _)) H_hn.out).mono ?_
  rintro e w1 ⟨rfl, hc1⟩
  rw [hlg.out]
  have hI : Blk w1 w.heap.size 138 (List.replicate 32 (Value.int .u8 0)) := Blk.later (Blk.newA _ _ _ _ (List.replicate 32 (Value.int .u8 0)) (by simp) (by rfl)) hc1
  have hb1 : Below w.heap.size w w1 := bchain (by repeat' (first | with_reducible exact hb0 | with_reducible refine Below.drew ?_ | with_reducible refine below_drewN ?_ _ | with_reducible refine Below.alloc ?_ (by have := hb0.size; first | (simp; done) | (simp; omega) | omega) _ | with_reducible refine Below.setCell ?_ (by first | (simp; done) | (simp; omega) | omega) _)) hc1
  clear hc1
  have hwf : ∀ W, Below w.heap.size w W → 6 < W.heap.size := fun W h => Nat.lt_of_lt_of_le hw0 h.size
  go_wp2_with fail
  with_reducible refine (start_any _).mono ?_
  rintro e w2 ⟨rfl, hc2⟩
  have hb2 : Below w.heap.size w w2 := bchain (by repeat' (first | with_reducible exact hb1 | with_reducible refine Below.drew ?_ | with_reducible refine below_drewN ?_ _ | with_reducible refine Below.alloc ?_ (by have := hb1.size; first | (simp; done) | (simp; omega) | omega) _ | with_reducible refine Below.setCell ?_ (by first | (simp; done) | (simp; omega) | omega) _)) hc2
  have hst2 : Below w1.heap.size w1 w2 := bchain (by repeat' (first | with_reducible exact Below.refl _ _ | with_reducible refine Below.drew ?_ | with_reducible refine below_drewN ?_ _ | with_reducible refine Below.alloc ?_ (by first | (simp; done) | (simp; omega) | omega) _ | with_reducible refine Below.setCell ?_ (by first | (simp; done) | (simp; omega) | omega) _)) hc2
  replace hI := hI.later hst2
  clear hst2
  clear hc2 hb1
  have zI := hI.lt
  have hN2 := Blk.newA w2 w2.heap.size _ 159 [.int .u32 0, .int .u32 0, .int .u32 0, .int .u32 0, .int .u32 0, .int .u32 0, .int .u32 0, .int .u32 0, .slice none 0 0, .int .i64 0] rfl rfl
  go_upto_region 4 with (refine wpList_store_blk rfl 159 _ _ rfl w2.heap.size (by rfl) 159 _ [.int .u32 v0c.a, .int .u32 v0c.b, .int .u32 v0c.c, .int .u32 v0c.d, .int .u32 v0c.e, .int .u32 v0c.f, .int .u32 v0c.g, .int .u32 v0c.z, .slice none 0 0, .int .i64 0] (by rfl) hN2 (by rfl) infoM (mill_one _ _ _ _ _) ?_; intro w3 hM he3; have H3 := hid he3; clear he3)
  have hc3 : Below w2.heap.size w2 w3 := H3.out ▸ below_setCells (Nat.le_refl _) _ _ _ ((Below.refl _ _).alloc (Nat.le_refl _) _)
  clear hN2
  have hb3 : Below w.heap.size w w3 := bchain (by repeat' (first | with_reducible exact hb2 | with_reducible refine Below.drew ?_ | with_reducible refine below_drewN ?_ _ | with_reducible refine Below.alloc ?_ (by have := hb2.size; first | (simp; done) | (simp; omega) | omega) _ | with_reducible refine Below.setCell ?_ (by first | (simp; done) | (simp; omega) | omega) _)) hc3
  have hst3 : Below w2.heap.size w2 w3 := bchain (by repeat' (first | with_reducible exact Below.refl _ _ | with_reducible refine Below.drew ?_ | with_reducible refine below_drewN ?_ _ | with_reducible refine Below.alloc ?_ (by first | (simp; done) | (simp; omega) | omega) _ | with_reducible refine Below.setCell ?_ (by first | (simp; done) | (simp; omega) | omega) _)) hc3
  replace hI := hI.later hst3
  clear hst3
  clear hc3 hb2 H3
  have z3 := hM.lt
  have z2 : w.heap.size < w2.heap.size := zI
  have hMH : MillHas w3 w2.heap.size (l.take 0).flatten := by rw [List.take_zero, List.flatten_nil]; exact ⟨v0c, none, 0, 0, hM, rfl, rfl, .inl rfl⟩
  have r0 := Below.refl w3.heap.size w3
  go_wp2_with fail
  go_loopw [18] (fun q wr => ∃ (k : Nat), k ≤ n ∧ q = .int .i64 k ∧ Below w.heap.size w wr ∧ Blk wr w.heap.size 138 (List.replicate 32 (Value.int .u8 0)) ∧ MillHas wr w2.heap.size (l.take k).flatten) (fun q _ => n - (intOf q).toNat)
  case atStart => exact ⟨0, Nat.zero_le _, rfl, hb3, hI, hMH⟩
  case round =>
    clear hb3 hI hMH hM r0 z3 zI
    obtain ⟨k, hk, rfl, hbw, hI, ⟨u, ar, m, cr, hM, hu, hm, kr⟩⟩ := hrel
    obtain ⟨bs, hbs⟩ : ∃ bs, bs = (l.take k).flatten := ⟨_, rfl⟩
    rw [← hbs] at hM hu hm kr
    have hN : bs.length ≤ 200000 := by have := HFL.out k; rw [← hbs] at this; omega
    obtain ⟨N, hNe⟩ : ∃ N, N = bs.length := ⟨_, rfl⟩
    rw [← hNe] at hM hN
    have hNI : (N : Int) ≤ 200000 := by omega
    have hm64 : m ≤ 64 := by rw [hm, restL_len]; omega
    have huk := mill_ok v0c_ok bs hu
    have hb8 : Bytes8 bs := hbs ▸ HF8.out k (by have := H_hn.out; omega)
    have M_0 := hM.cell (j := 0) (v := .int .u32 u.a) rfl
    have M_1 := hM.cell (j := 1) (v := .int .u32 u.b) rfl
    have M_2 := hM.cell (j := 2) (v := .int .u32 u.c) rfl
    have M_3 := hM.cell (j := 3) (v := .int .u32 u.d) rfl
    have M_4 := hM.cell (j := 4) (v := .int .u32 u.e) rfl
    have M_5 := hM.cell (j := 5) (v := .int .u32 u.f) rfl
    have M_6 := hM.cell (j := 6) (v := .int .u32 u.g) rfl
    have M_7 := hM.cell (j := 7) (v := .int .u32 u.z) rfl
    have M_8 := hM.cell (j := 8) (v := .slice ar m cr) rfl
    have M_9 := hM.cell (j := 9) (v := .int .i64 N) rfl
    have H_hbs := hid hbs
    have H_hu := hid hu
    have H_hm := hid hm
    have H_huk := hid huk
    have H_hNe := hid hNe
    clear hbs hu hm huk hNe
    by_cases hlt : k < n
    · have hlt' : (k : Int) < (n : Int) := by omega
      obtain ⟨b, o, x, p, cp, rfl, cc, hp, kx, h8x, hpm⟩ := (hP.later hbw).at (i := k) (by have := H_hn.out; omega)
      have Hp := hid hp
      have hsum : m + p ≤ 140737488355327 := by
        have h1 := HFL.out (k + 1)
        rw [flat_take_succ (by have := H_hn.out; omega), List.length_append, ← hp] at h1
        omega
      clear hp
      go_wp2_with fail
      with_reducible refine (feed_any u (restL bs) (pc l k) N ar x m cr p cp _ H_huk.out H_hm.out Hp.out kr kx hb8.rest h8x (hK.later hbw) (hwf _ hbw) hsum (by omega) (by omega)).mono ?_
      rintro e w5 ⟨u2, a2, m2, c2, rfl, hu2, hm2, o2, hc5⟩
      have hM5 := hM.later hc5
      have z2M := hM5.lt
      have hI5 := hI.later hc5
      have hb5 := bchain hbw hc5
      have Hu2 := hid hu2
      have Hm2 := hid hm2
      have z5 := hc5.size
      have zM := hM.lt
      clear hu2 hm2 hM hI hc5 M_0 M_1 M_2 M_3 M_4 M_5 M_6 M_7 M_8 M_9 cc
      go_wp2_with (refine wpList_store_blk rfl 159 _ _ rfl w2.heap.size (by rfl) 159 _ [.int .u32 u2.a, .int .u32 u2.b, .int .u32 u2.c, .int .u32 u2.d, .int .u32 u2.e, .int .u32 u2.f, .int .u32 u2.g, .int .u32 u2.z, .slice a2 m2 c2, .int .i64 ((N : Int) + (p : Int))] (by rfl) hM5 (by rfl) infoM (mill_one _ _ _ _ _) ?_; intro w6 hM6 he6; have H6 := hid he6; clear he6)
      go_wp2_with fail
      go_roundw
      case rel =>
        have hb6 : Below w.heap.size w w6 := H6.out ▸ below_setCells (Nat.le_of_lt z2) _ _ _ hb5
        refine ⟨k + 1, by omega, by go_num, hb6, H6.out ▸ Blk.setCellsFar (by omega) _ _ _ hI5, ?_⟩
        have e1 : (l.take (k + 1)).flatten = bs ++ pc l k := by rw [H_hbs.out]; exact flat_take_succ (by have := H_hn.out; omega)
        rw [e1]
        have e2 : ((bs ++ pc l k).length : Int) = (N : Int) + (p : Int) := by rw [List.length_append, H_hNe.out, Hp.out]; omega
        refine ⟨u2, a2, m2, c2, ?_, ?_, ?_, ?_⟩
        · rw [e2]; exact hM6
        · rw [Hu2.out, H_hu.out, mill_append]
        · rw [Hm2.out, ← restL_append]
          unfold restL
          rw [List.length_drop]; omega
        · rw [← restL_append]
          exact H6.out ▸ CellsAt.setCellsFar (fun ad e => by have := (o2.addr ad e).1; omega) _ _ _ o2.cellsAt
      case measure => simp [intOf]; omega
    · have hge : (n : Int) ≤ (k : Int) := by omega
      obtain ⟨ws, hws⟩ : ∃ ws, ws = (ofL l.flatten).map (Value.int .u8) := ⟨_, rfl⟩
      have hvl : ws.length = 32 := by rw [hws, List.length_map, ofL_len]
      have ho : ∀ x ∈ ws, x.oneCell' = true := by rw [hws]; exact oneCell_ints _ _
      have hi2 : (Tryd.prog.info? 138).map (·.size) = some ws.length := by rw [hvl]; exact info32
      have hlr : ws.length = (List.replicate 32 (Value.int .u8 0)).length := by rw [hvl]; rfl
      have hof := hid (show endL u.list (restL bs) N = ofL l.flatten by
        have hb : bs = l.flatten := by rw [H_hbs.out, List.take_of_length_le (by have := H_hn.out; omega)]
        rw [H_hu.out, H_hNe.out, endL_of, hb])
      have hmN := hid (show m = N % 64 by rw [H_hm.out, restL_len, H_hNe.out])
      have H_hws := hid hws
      have H_hvl := hid hvl
      have H_ho := hid ho
      have H_hi2 := hid hi2
      have H_hlr := hid hlr
      clear hws hvl ho hi2 hlr
      go_wp2_with fail
      with_reducible refine (end_any u (restL bs) N ar m cr _ H_huk.out H_hm.out kr hb8.rest (hK.later hbw) (hwf _ hbw) hN hmN.out).mono ?_
      rintro e w5 ⟨rfl, hc5⟩
      rw [hof.out, ← H_hws.out]
      have hI5 := hI.later hc5
      have hb5 := bchain hbw hc5
      clear hc5 M_0 M_1 M_2 M_3 M_4 M_5 M_6 M_7 M_8 M_9 hM hI kr
      go_wp2_with (refine wpList_store_blk rfl 138 _ _ rfl w.heap.size (by rfl) 138 _ ws (by rfl) hI5 H_hlr.out H_hi2.out H_ho.out ?_; intro w7 hB7 he7; have H7 := hid he7; clear he7)
      go_wp2_with fail
      have hb7 : Below w.heap.size w w7 := H7.out ▸ below_setCells (Nat.le_refl _) _ _ _ hb5
      refine bodyPost_ret (results_blk2 (by rfl) _ _ w.heap.size 138 _ _ (.int .i64 0) rfl rfl hB7 Tryd.underlying138 rfl H_hi2.out) rfl ⟨?_, hb7⟩
      rw [idE_mk, H_hws.out]

end Go.Proofs.YthdldmkeoglflaaDoor

/- The reference's Whole, Of, Pieces, Sum, Long; the program's Sum. -/
namespace Go.Proofs.YthdldmkeoglflaaDoor
set_option maxRecDepth 100000
set_option linter.unusedSimpArgs false
set_option linter.unusedVariables false
set_option linter.unnecessarySimpa false
open Go.RowKit

theorem pieces_any (l : List (List Int)) (vs : List Value) (a : Option Addr) (n c : Nat) (w : World) (hP : PiecesIn w a vs l) (hn : n = l.length) (hK : CellsAt w (some ⟨6, 0, none⟩) (kcs.map (Value.int .u32))) (hw0 : 6 < w.heap.size) :
    Calls Tryd.prog 97 #[.slice a n c] w fun e w' =>
      e = idE (sumP l) ∧ Below w.heap.size w w' := by
  by_cases h20 : 20 < n
  · exact pieces_bad l vs a n c w hP hn (.inl h20)
  · cases hlg : l.any longB with
    | true => exact pieces_bad l vs a n c w hP hn (.inr hlg)
    | false =>
      have : sumP l = (ofL l.flatten, 0) := by
        unfold sumP
        rw [if_neg (by rintro (h | h); omega; rw [hlg] at h; cases h)]
      rw [this]
      exact pieces_ok l vs a n c w hP hn (by omega) hlg hK hw0
theorem sumP_len (l : List (List Int)) : (sumP l).1.length = 32 := by
  unfold sumP
  split
  · simp
  · simp only [ofL_len]
theorem pieces_one {w : World} {a : Option Addr} {n c : Nat} {bs : List Int} {B : Nat} {t : TypeId} (hB : Blk w B t [.slice a n c]) (hn : n = bs.length) (hb : CellsAt w a (bs.map (Value.int .u8))) (h8 : Bytes8 bs) (hl : bs.length ≤ maxLen) : PiecesIn w (some ⟨B, 0, none⟩) [.slice a n c] [bs] :=
  ⟨.inr ⟨B, 0, rfl, fun j u hj => by rw [Nat.zero_add]; exact hB.cell hj⟩, ⟨⟨a, c, by rw [hn], hb, h8, hl⟩, trivial⟩, rfl, by simp [maxLen]⟩

/-- What Long hands back. -/
def LongR (l : List (List Int)) (e : Ending) : Prop := ∃ b : Bool, e = .returned (.bool b) ∧ (b = false → l.length ≤ 30)
end Go.Proofs.YthdldmkeoglflaaDoor
