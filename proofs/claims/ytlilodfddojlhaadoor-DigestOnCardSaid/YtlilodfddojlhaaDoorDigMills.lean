/- DigestMills: the law's function returns true. -/
import Derived.Test.YtlilodfddojlhaaDoorDigSame
import Derived.Test.YtlilodfddojlhaaDoorOwnAt
namespace Go.Proofs.YtlilodfddojlhaaDoor
set_option linter.unusedSimpArgs false
set_option linter.unusedVariables false
set_option linter.unnecessarySimpa false
open Go.RowKit

/-- What the walk is told of a mill and of bytes that came in. -/
structure MillIn (w : World) (v : V8) (rs : List Int) (N : Int) (ra : Option Addr) : Prop where
  ok : v.ok
  cells : CellsAt w ra (rs.map (Value.int .u8))
  bytes : Bytes8 rs
  len : rs.length ≤ maxLen
structure BytesIn (w : World) (a : Option Addr) (bs : List Int) : Prop where
  cells : CellsAt w a (bs.map (Value.int .u8))
  bytes : Bytes8 bs
  len : bs.length ≤ maxLen
theorem nilCells (w : World) (a : Option Addr) (k : IntKind) : CellsAt w a (([] : List Int).map (Value.int k)) := .inl rfl
def VBlk (B t : Nat) (cs : List Value) : Value → World → Prop := fun v w => ∃ b, v = .pointer (some ⟨b, 0, none⟩) ∧ B ≤ b ∧ Blk w b t cs
theorem VBlk.last {B t : Nat} {cs : List Value} (v : Value) (w w' : World) (h : VBlk B t cs v w) (hb : Below w.heap.size w w') : VBlk B t cs v w' :=
  let ⟨b, hv, hB, hc⟩ := h
  ⟨b, hv, hB, hc.later hb⟩
/-- A row that lies apart from another's block, where both hold something. -/
def VCupA (B : Nat) (e : TypeId) (size n : Nat) (cs ys : List Value) (u : Value) : Value → World → Prop := fun v w => VCup B e size n cs v w ∧ (ys = [] ∨ cs = [] ∨ ∀ k, u.ownBlock = some k → v.ownBlock ≠ some k)
theorem VCupA.last {B : Nat} {e : TypeId} {size n : Nat} {cs ys : List Value} {u : Value} (v : Value) (w w' : World) (h : VCupA B e size n cs ys u v w) (hb : Below w.heap.size w w') : VCupA B e size n cs ys u v w' := ⟨VCup.last v w w' h.1 hb, h.2⟩
theorem CupX.ne_blk {w : World} {base : Nat} {e t : TypeId} {size : Nat} {a : Option Addr} {n m c B : Nat} {xs cs : List Value} (h : CupX w base e size (.slice a m c) n xs) (hb : Blk w B t cs) (ht : e ≠ t) (hx : xs ≠ []) : ∀ ad, a = some ad → ad.block ≠ B := by
  intro ad had e'
  subst had
  rcases h with h | ⟨_, h, _⟩
  · rcases h.2 with ⟨h1, _⟩ | ⟨g, cap, cur, h1, _, h2, _⟩
    · cases h1
    · cases h1
      simp only at e'
      subst e'
      have := h2.symm.trans hb
      simp at this
      exact ht this.2
  · exact hx h

theorem CupX.mono {w : World} {base base' : Nat} {e : TypeId} {size : Nat} {v : Value} {n : Nat} {xs : List Value} (h : CupX w base e size v n xs) (hb : base' ≤ base) : CupX w base' e size v n xs := by
  rcases h with h | h
  · exact .inl (h.mono hb)
  · exact .inr h
theorem CupX.apart {w w' : World} {B : Nat} {e : TypeId} {size n m c : Nat} {xs ys : List Value} {u : Value} {a : Option Addr} (h : VCup B e size n xs u w) (k : CupX w' w.heap.size e size (.slice a m c) m ys) :
    xs = [] ∨ ys = [] ∨ ∀ k, u.ownBlock = some k → (Value.slice a m c).ownBlock ≠ some k := by
  by_cases hx : xs = []
  · exact .inl hx
  by_cases hy : ys = []
  · exact .inr (.inl hy)
  refine .inr (.inr fun q h1 h2 => ?_)
  obtain ⟨a5, c5, rfl, h5⟩ := h
  cases a5 with
  | none => simp [Value.ownBlock] at h1
  | some ad =>
    cases a with
    | none => simp [Value.ownBlock] at h2
    | some ae =>
      have e1 := (h5.addr hx ad rfl).2
      have e2 := (k.addr hy ae rfl).1
      simp [Value.ownBlock] at h1 h2
      omega

theorem gb_setCells {w0 : World} {B : Nat} : ∀ (vs : List Value) (o : Nat) (w : World), w0.grownBy w (some B) → w0.grownBy (w.setCells B o vs) (some B)
  | [], _, _, h => h
  | v :: vs, o, w, h => gb_setCells vs (o + 1) _ (gb_setCell h o v)
theorem CupX.setCellsFar {w : World} {base : Nat} {e t : TypeId} {size : Nat} {a : Option Addr} {n m c B : Nat} {xs cs : List Value} (h : CupX w base e size (.slice a m c) n xs) (hb : Blk w B t cs) (ht : e ≠ t) (vs : List Value) : CupX (w.setCells B 0 vs) base e size (.slice a m c) n xs := by
  by_cases hx : xs = []
  · rcases h with h | h
    · refine .inl (h.kept (row := some B) (gb_setCells _ _ _ (World.grownBy.refl _ _)) ?_)
      cases a with
      | none => left; rfl
      | some ad =>
        right
        intro e'
        simp only [Value.ownBlock, Option.some.injEq] at e'
        rcases h.2 with ⟨h1, _⟩ | ⟨g, cap, cur, h1, _, h2, _⟩
        · cases h1
        · cases h1
          simp only at e'
          subst e'
          have := h2.symm.trans hb
          simp at this
          exact ht this.2
    · exact .inr h
  · have hne := h.ne_blk hb ht hx
    rcases h with h | h
    · refine .inl (h.kept (row := some B) (gb_setCells _ _ _ (World.grownBy.refl _ _)) ?_)
      cases a with
      | none => left; rfl
      | some ad =>
        right
        intro e'
        simp only [Value.ownBlock, Option.some.injEq] at e'
        exact hne ad rfl e'
    · exact .inr h
theorem add_r {R : List Int × List Int × Int × Int} {v : V8} {rs ys : List Int} {N : Int} (hR : addM v.list rs N ys = R) (ra ba : Option Addr) (rn rc bn bc : Nat) (w : World) (hv : v.ok) (hrn : rn = rs.length) (hbn : bn = ys.length) (hr : CellsAt w ra (rs.map (Value.int .u8))) (hy : CellsAt w ba (ys.map (Value.int .u8)))
    (hr8 : Bytes8 rs) (hy8 : Bytes8 ys) (hK : CellsAt w (some ⟨0, 0, none⟩) (kcs.map (Value.int .u32))) (hw0 : 0 < w.heap.size) (hb : rn + bn ≤ 140737488355327) :
    Calls Tryd.prog 9 #[.agg #[.int .u32 v.a, .int .u32 v.b, .int .u32 v.c, .int .u32 v.d, .int .u32 v.e, .int .u32 v.f, .int .u32 v.g, .int .u32 v.z, .slice ra rn rc, .int .i64 N], .slice ba bn bc] w fun e w' =>
      MillR w.heap.size w' e R ∧ Below w.heap.size w w' := by
  subst hR; exact add_any v rs ys N ra ba rn rc bn bc w hv hrn hbn hr hy hr8 hy8 hK hw0 hb
theorem radd_r {R : List Int × List Int × Int × Int} {v : V8} {rs ys : List Int} {N : Int} (hR : addM v.list rs N ys = R) (ra ba : Option Addr) (rn rc bn bc : Nat) (w : World) (hv : v.ok) (hrn : rn = rs.length) (hbn : bn = ys.length) (hr : CellsAt w ra (rs.map (Value.int .u8))) (hy : CellsAt w ba (ys.map (Value.int .u8)))
    (hr8 : Bytes8 rs) (hy8 : Bytes8 ys) (hK : CellsAt w (some ⟨0, 0, none⟩) (kcs.map (Value.int .u32))) (hw0 : 0 < w.heap.size) (hb : rn + bn ≤ 140737488355327) :
    Calls Tryd.prog 10 #[.agg #[.int .u32 v.a, .int .u32 v.b, .int .u32 v.c, .int .u32 v.d, .int .u32 v.e, .int .u32 v.f, .int .u32 v.g, .int .u32 v.z, .slice ra rn rc, .int .i64 N], .slice ba bn bc] w fun e w' =>
      MillR w.heap.size w' e R ∧ Below w.heap.size w w' := by
  subst hR; exact radd_any v rs ys N ra ba rn rc bn bc w hv hrn hbn hr hy hr8 hy8 hK hw0 hb
/-- A result: an id, an error. -/
def IdR (e : Ending) (dv : List Value) (de : Int) : Prop := e = .returned (.tuple #[.agg dv.toArray, .int .i64 de])
theorem end_r {dl : List Int} {v : V8} {rs : List Int} {N : Int} {dv : List Value} {de : Int} (hD : endM v.list rs N = (dl, de)) (hdv : dv = dl.map (Value.int .u8)) (ra : Option Addr) (rn rc : Nat) (w : World) (hv : v.ok) (hrn : rn = rs.length) (hr : CellsAt w ra (rs.map (Value.int .u8))) (hr8 : Bytes8 rs) (hK : CellsAt w (some ⟨0, 0, none⟩) (kcs.map (Value.int .u32))) (hw0 : 0 < w.heap.size) :
    Calls Tryd.prog 11 #[.agg #[.int .u32 v.a, .int .u32 v.b, .int .u32 v.c, .int .u32 v.d, .int .u32 v.e, .int .u32 v.f, .int .u32 v.g, .int .u32 v.z, .slice ra rn rc, .int .i64 N]] w fun e w' =>
      e = .returned (.tuple #[.agg dv.toArray, .int .i64 de]) ∧ Below w.heap.size w w' := by
  have := End_any v rs N ra rn rc w hv hrn hr hr8 hK hw0
  rw [hD, idE_mk, ← hdv] at this; exact this
theorem rend_r {dl : List Int} {v : V8} {rs : List Int} {N : Int} {dv : List Value} {de : Int} (hD : endM v.list rs N = (dl, de)) (hdv : dv = dl.map (Value.int .u8)) (ra : Option Addr) (rn rc : Nat) (w : World) (hv : v.ok) (hrn : rn = rs.length) (hr : CellsAt w ra (rs.map (Value.int .u8))) (hr8 : Bytes8 rs) :
    Calls Tryd.prog 12 #[.agg #[.int .u32 v.a, .int .u32 v.b, .int .u32 v.c, .int .u32 v.d, .int .u32 v.e, .int .u32 v.f, .int .u32 v.g, .int .u32 v.z, .slice ra rn rc, .int .i64 N]] w fun e w' =>
      e = .returned (.tuple #[.agg dv.toArray, .int .i64 de]) ∧ Below w.heap.size w w' := by
  have := rend_any v rs N ra rn rc w hv hrn hr hr8
  rw [hD, idE_mk, ← hdv] at this; exact this
theorem endM_len (hs rs : List Int) (N : Int) : (endM hs rs N).1.length = 32 := by
  unfold endM
  split
  · simp
  · simp only [endL_len]
theorem infoM : (Tryd.prog.info? 26).map (·.size) = some 10 := by kernel_rfl

theorem addM_rest (hs rs ys : List Int) (N : Int) : (addM hs rs N ys).2.1.length ≤ rs.length + ys.length := by
  unfold addM
  split
  · simp
  · split
    · simp
    · simp only [List.length_drop, List.length_append]; omega

theorem Bytes8.set {l : List Int} (h : Bytes8 l) (i : Nat) (x : Int) (hx : 0 ≤ x ∧ x < 256) : Bytes8 (l.set i x) := fun y hy => by
  rcases List.mem_or_eq_of_mem_set hy with h1 | h1
  · exact h y h1
  · subst h1; exact hx
def RowU (w : World) (B e : Nat) (a : Option Addr) (n c : Nat) : Prop := 0 < n → ∃ ys : List Int, ys.length = n ∧ Bytes8 ys ∧ OwnX w B e 1 (.slice a n c) n (ys.map (Value.int .u8))
theorem gb_row {w w1 : World} {b : Nat} {a : Option Addr} {xs : List Int} (hc : CellsAt w a (xs.map (Value.int .u8))) (h : w.grownBy w1 (some b)) (hne : xs ≠ [] → ∀ ad, a = some ad → ad.block ≠ b) : CellsAt w1 a (xs.map (Value.int .u8)) := by
  by_cases hx : xs = []
  · subst hx; exact .inl rfl
  · exact gb_cells h hc (hne hx)

set_option maxRecDepth 100000 in
set_option maxHeartbeats 4000000 in
theorem mills_go (v : V8) (rs bs : List Int) (N : Int) (ra ba : Option Addr) (rn rc bn bc : Nat) (w : World) (hv : v.ok) (hrn : rn = rs.length) (hbn : bn = bs.length) (hr : CellsAt w ra (rs.map (Value.int .u8))) (hb : CellsAt w ba (bs.map (Value.int .u8)))
    (hr8 : Bytes8 rs) (hb8 : Bytes8 bs) (hK : CellsAt w (some ⟨0, 0, none⟩) (kcs.map (Value.int .u32))) (hw0 : 0 < w.heap.size) (h1 : bn ≤ 1500) (h2 : rn ≤ 200) :
    Calls Tryd.prog 3 #[.agg #[.int .u32 v.a, .int .u32 v.b, .int .u32 v.c, .int .u32 v.d, .int .u32 v.e, .int .u32 v.f, .int .u32 v.g, .int .u32 v.z, .slice ra rn rc, .int .i64 N], .slice ba bn bc] w fun e w' =>
      e = .returned (.bool true) ∧ Below w.heap.size w w' := by
  have hb8' := hb8
  obtain ⟨i0, hi, hz0, hz1, hz2⟩ := info_parts info_u8
  have h1I : (bn : Int) ≤ 1500 := by omega
  have h2I : (rn : Int) ≤ 200 := by omega
  have hl1 : (rs.map (Value.int .u8)).length = rn * 1 := by rw [List.length_map, hrn, Nat.mul_one]
  have hl2 : (bs.map (Value.int .u8)).length = bn * 1 := by rw [List.length_map, hbn, Nat.mul_one]
  have H_hv := hid hv
  have H_hrn := hid hrn
  have H_hbn := hid hbn
  have H_hl1 := hid hl1
  have H_hl2 := hid hl2
  clear hv hrn hbn hl1 hl2
  go_enter Tryd.func3, Tryd.ntmps3
  have hb0 := Below.refl w.heap.size w
  go_wp2_with fail
  refine wp_gen fun w1 hc1 => ?_
  have hb1 : Below w.heap.size w w1 := bchain (by repeat' (first | with_reducible exact hb0 | with_reducible refine Below.drew ?_ | with_reducible refine below_drewN ?_ _ | with_reducible refine Below.alloc ?_ (by have := hb0.size; first | (simp; done) | (simp; omega) | omega) _ | with_reducible refine Below.setCell ?_ (by first | (simp; done) | (simp; omega) | omega) _)) hc1
  have M_0 : w1.cell? ⟨w.heap.size, 0, none⟩ = some (.int .u32 v.a) := (hc1.cell (p := ⟨w.heap.size, 0, none⟩) (by first | (simp; done) | (simp; omega))).trans (by first | (simp; done) | go_simp)
  have M_1 : w1.cell? ⟨w.heap.size, 1, none⟩ = some (.int .u32 v.b) := (hc1.cell (p := ⟨w.heap.size, 1, none⟩) (by first | (simp; done) | (simp; omega))).trans (by first | (simp; done) | go_simp)
  have M_2 : w1.cell? ⟨w.heap.size, 2, none⟩ = some (.int .u32 v.c) := (hc1.cell (p := ⟨w.heap.size, 2, none⟩) (by first | (simp; done) | (simp; omega))).trans (by first | (simp; done) | go_simp)
  have M_3 : w1.cell? ⟨w.heap.size, 3, none⟩ = some (.int .u32 v.d) := (hc1.cell (p := ⟨w.heap.size, 3, none⟩) (by first | (simp; done) | (simp; omega))).trans (by first | (simp; done) | go_simp)
  have M_4 : w1.cell? ⟨w.heap.size, 4, none⟩ = some (.int .u32 v.e) := (hc1.cell (p := ⟨w.heap.size, 4, none⟩) (by first | (simp; done) | (simp; omega))).trans (by first | (simp; done) | go_simp)
  have M_5 : w1.cell? ⟨w.heap.size, 5, none⟩ = some (.int .u32 v.f) := (hc1.cell (p := ⟨w.heap.size, 5, none⟩) (by first | (simp; done) | (simp; omega))).trans (by first | (simp; done) | go_simp)
  have M_6 : w1.cell? ⟨w.heap.size, 6, none⟩ = some (.int .u32 v.g) := (hc1.cell (p := ⟨w.heap.size, 6, none⟩) (by first | (simp; done) | (simp; omega))).trans (by first | (simp; done) | go_simp)
  have M_7 : w1.cell? ⟨w.heap.size, 7, none⟩ = some (.int .u32 v.z) := (hc1.cell (p := ⟨w.heap.size, 7, none⟩) (by first | (simp; done) | (simp; omega))).trans (by first | (simp; done) | go_simp)
  have M_8 : w1.cell? ⟨w.heap.size, 8, none⟩ = some (.slice ra rn rc) := (hc1.cell (p := ⟨w.heap.size, 8, none⟩) (by first | (simp; done) | (simp; omega))).trans (by first | (simp; done) | go_simp)
  have M_9 : w1.cell? ⟨w.heap.size, 9, none⟩ = some (.int .i64 N) := (hc1.cell (p := ⟨w.heap.size, 9, none⟩) (by first | (simp; done) | (simp; omega))).trans (by first | (simp; done) | go_simp)
  have M_l : w.heap.size < w1.heap.size := Nat.lt_of_lt_of_le (by first | (simp; done) | (simp; omega)) hc1.size
  have KM_0 := cell_on M_0
  have KM_1 := cell_on M_1
  have KM_2 := cell_on M_2
  have KM_3 := cell_on M_3
  have KM_4 := cell_on M_4
  have KM_5 := cell_on M_5
  have KM_6 := cell_on M_6
  have KM_7 := cell_on M_7
  have KM_8 := cell_on M_8
  have KM_9 := cell_on M_9
  have zM1 := M_l
  have kr1 : CellsAt w1 ra (rs.map (Value.int .u8)) := hr.later hb1
  have kb1 : CellsAt w1 ba (bs.map (Value.int .u8)) := hb.later hb1
  have kK1 : CellsAt w1 (some ⟨0, 0, none⟩) (kcs.map (Value.int .u32)) := hK.later hb1
  have hw1 : 0 < w1.heap.size := Nat.lt_of_lt_of_le hw0 hb1.size
  have hw3f : ∀ W, Below w.heap.size w W → 0 < W.heap.size := fun W h => Nat.lt_of_lt_of_le hw0 h.size
  refine wp_region_on_spec_tail [(2, [], fun _ => VEmpty), (5, [], fun _ => VCup w1.heap.size 5 1 rn (rs.map (Value.int .u8))), (8, [31], fun l => VIs (.agg #[.int .u32 v.a, .int .u32 v.b, .int .u32 v.c, .int .u32 v.d, .int .u32 v.e, .int .u32 v.f, .int .u32 v.g, .int .u32 v.z, (l.getD 0 undef), .int .i64 N])), (9, [], fun _ => VEmpty), (11, [31], fun l => VCupA w1.heap.size 5 1 bn (bs.map (Value.int .u8)) (rs.map (Value.int .u8)) (l.getD 0 undef)), (12, [], fun _ => VBlk w1.heap.size 26 [.int .u32 0, .int .u32 0, .int .u32 0, .int .u32 0, .int .u32 0, .int .u32 0, .int .u32 0, .int .u32 0, .slice none 0 0, .int .i64 0])] [2, 5, 8, 9, 11, 12] [] [(2, []), (5, []), (8, [31]), (9, []), (11, [31]), (12, [])] 13 (by kernel_rfl) (by kernel_rfl) rfl (by kernel_rfl) rfl (by kernel_rfl) ⟨fun _ => VEmpty.last, fun _ => VCup.last, fun _ => VIs.last, fun _ => VEmpty.last, fun _ => VCupA.last, fun _ => VBlk.last, trivial⟩ ?_
  try simp only [List.take_succ_cons, List.take_zero, List.drop_succ_cons, List.drop_zero]
  refine wpSpec_quiet 2 (by kernel_rfl) (by kernel_rfl) ?_
  simp only [List.take_succ_cons, List.take_zero, List.drop_succ_cons, List.drop_zero]
  repeat (go_big_quiet_step (fail))
  refine wpQuiet_nil ?_
  show wpSpec _ _ _ _ _ _ _ _ _ _ _
  refine wpSpec_at [] (VEmpty) rfl (by first | rfl | (simp [viewS, Act.eval]; done)) rfl (by first | rfl | (simp [Region.wanted]; done)) ?_ rfl ?_
  · intro wq hq hfq
    clear hfq
    unfold Oper.gives; go_simp; exact ⟨(Below.refl _ _).alloc (Nat.le_refl _) _, _, rfl⟩
  rintro x2 -
  simp only [Act.put, List.setIfInBounds_toArray, List.set_cons_succ, List.set_cons_zero]
  refine wpSpec_quiet 2 (by kernel_rfl) (by kernel_rfl) ?_
  simp only [List.take_succ_cons, List.take_zero, List.drop_succ_cons, List.drop_zero]
  repeat (go_big_quiet_step (fail))
  refine wpQuiet_nil ?_
  show wpSpec _ _ _ _ _ _ _ _ _ _ _
  refine wpSpec_at [] (VCup w1.heap.size 5 1 rn (rs.map (Value.int .u8))) rfl (by first | rfl | (simp [viewS, Act.eval]; done)) rfl (by first | rfl | (simp [Region.wanted]; done)) ?_ rfl ?_
  · intro wq hq hfq
    have f2 := hfq 2 (by kernel_rfl)
    simp only [upd, Nat.beq, cond] at f2
    clear hfq
    exact gives_append_c0 _ _ _ rfl x2 (.slice ra rn rc) rfl rfl _ _ i0 (.int .u8 0) 1 1 Tryd.underlying24 hi hz0 hz1 hz2 rfl (by decide) f2 rn _ ⟨_, _, rfl, kr1.later hq⟩ H_hl1.out (ints_oneCell _ _) (by unfold maxLen; omega) (by omega) hq.size
  rintro x5 -
  simp only [Act.put, List.setIfInBounds_toArray, List.set_cons_succ, List.set_cons_zero]
  refine wpSpec_quiet 2 (by kernel_rfl) (by kernel_rfl) ?_
  simp only [List.take_succ_cons, List.take_zero, List.drop_succ_cons, List.drop_zero]
  repeat (go_big_quiet_step (fail))
  refine wpQuiet_nil ?_
  show wpSpec _ _ _ _ _ _ _ _ _ _ _
  refine wpSpec_at [x5] (VIs (.agg #[.int .u32 v.a, .int .u32 v.b, .int .u32 v.c, .int .u32 v.d, .int .u32 v.e, .int .u32 v.f, .int .u32 v.g, .int .u32 v.z, (x5), .int .i64 N])) rfl (by first | rfl | (simp [viewS, Act.eval]; done)) rfl (by first | rfl | (simp [Region.wanted]; done)) ?_ rfl ?_
  · intro wq hq hfq
    have f5 := hfq 5 (by kernel_rfl)
    simp only [upd, Nat.beq, cond] at f5
    clear hfq
    obtain ⟨a5, c5, rfl, _⟩ := f5
    unfold Oper.gives; go_simp
    exact ⟨Below.refl _ _, rfl⟩
  rintro x8 -
  simp only [Act.put, List.setIfInBounds_toArray, List.set_cons_succ, List.set_cons_zero]
  refine wpSpec_at [] (VEmpty) rfl (by first | rfl | (simp [viewS, Act.eval]; done)) rfl (by first | rfl | (simp [Region.wanted]; done)) ?_ rfl ?_
  · intro wq hq hfq
    clear hfq
    unfold Oper.gives; go_simp; exact ⟨(Below.refl _ _).alloc (Nat.le_refl _) _, _, rfl⟩
  rintro x9 -
  simp only [Act.put, List.setIfInBounds_toArray, List.set_cons_succ, List.set_cons_zero]
  refine wpSpec_quiet 1 (by kernel_rfl) (by kernel_rfl) ?_
  simp only [List.take_succ_cons, List.take_zero, List.drop_succ_cons, List.drop_zero]
  repeat (go_big_quiet_step (fail))
  refine wpQuiet_nil ?_
  show wpSpec _ _ _ _ _ _ _ _ _ _ _
  refine wpSpec_at [x5] (VCupA w1.heap.size 5 1 bn (bs.map (Value.int .u8)) (rs.map (Value.int .u8)) (x5)) rfl (by first | rfl | (simp [viewS, Act.eval]; done)) rfl (by first | rfl | (simp [Region.wanted]; done)) ?_ rfl ?_
  · intro wq hq hfq
    have f9 := hfq 9 (by kernel_rfl)
    have f5 := hfq 5 (by kernel_rfl)
    simp only [upd, Nat.beq, cond] at f9 f5
    clear hfq
    refine (gives_append_c0 _ _ _ rfl x9 (.slice ba bn bc) rfl rfl wq.heap.size _ i0 (.int .u8 0) 1 1 Tryd.underlying24 hi hz0 hz1 hz2 rfl (by decide) f9 bn _ ⟨_, _, rfl, kb1.later hq⟩ H_hl2.out (ints_oneCell _ _) (by unfold maxLen; omega) (by omega) (Nat.le_refl _)).mono ?_
    rintro r w' ⟨hb, a', c', rfl, hc⟩
    refine ⟨hb, ⟨a', c', rfl, hc.mono hq.size⟩, ?_⟩
    exact CupX.apart f5 hc
  rintro x11 -
  simp only [Act.put, List.setIfInBounds_toArray, List.set_cons_succ, List.set_cons_zero]
  refine wpSpec_at [] (VBlk w1.heap.size 26 [.int .u32 0, .int .u32 0, .int .u32 0, .int .u32 0, .int .u32 0, .int .u32 0, .int .u32 0, .int .u32 0, .slice none 0 0, .int .i64 0]) rfl (by first | rfl | (simp [viewS, Act.eval]; done)) rfl (by first | rfl | (simp [Region.wanted]; done)) ?_ rfl ?_
  · intro wq hq hfq
    clear hfq
    unfold Oper.gives; go_simp; exact ⟨(Below.refl _ _).alloc (Nat.le_refl _) _, _, rfl, hq.size, Blk.newA _ _ _ _ _ rfl rfl⟩
  rintro x12 -
  simp only [Act.put, List.setIfInBounds_toArray, List.set_cons_succ, List.set_cons_zero]
  intro w2 hc2 hfq
  have f5 := hfq 5
  have f8 := hfq 8
  have f11 := hfq 11
  have f12 := hfq 12
  simp only [upd, Nat.beq, cond] at f5 f8 f11 f12
  clear hfq
  clear KM_0 KM_1 KM_2 KM_3 KM_4 KM_5 KM_6 KM_7 KM_8 KM_9
  have hb2 : Below w.heap.size w w2 := bchain (by repeat' (first | with_reducible exact hb1 | with_reducible refine Below.drew ?_ | with_reducible refine below_drewN ?_ _ | with_reducible refine Below.alloc ?_ (by have := hb1.size; first | (simp; done) | (simp; omega) | omega) _ | with_reducible refine Below.setCell ?_ (by first | (simp; done) | (simp; omega) | omega) _)) hc2
  have hst2 : Below w1.heap.size w1 w2 := bchain (by repeat' (first | with_reducible exact Below.refl _ _ | with_reducible refine Below.drew ?_ | with_reducible refine below_drewN ?_ _ | with_reducible refine Below.alloc ?_ (by first | (simp; done) | (simp; omega) | omega) _ | with_reducible refine Below.setCell ?_ (by first | (simp; done) | (simp; omega) | omega) _)) hc2
  replace M_0 := cell_later hst2 M_0
  replace M_1 := cell_later hst2 M_1
  replace M_2 := cell_later hst2 M_2
  replace M_3 := cell_later hst2 M_3
  replace M_4 := cell_later hst2 M_4
  replace M_5 := cell_later hst2 M_5
  replace M_6 := cell_later hst2 M_6
  replace M_7 := cell_later hst2 M_7
  replace M_8 := cell_later hst2 M_8
  replace M_9 := cell_later hst2 M_9
  replace M_l := Nat.lt_of_lt_of_le M_l hst2.size
  clear hst2
  obtain ⟨a5, c5, rfl, k5⟩ := f5
  obtain ⟨⟨a11, c11, rfl, k11⟩, hap⟩ := f11
  obtain ⟨b12, rfl, hb12, hB⟩ := f12
  subst f8
  have Hap := hid hap
  clear hap
  have HH5 : ∃ H, (0 < rn → a5 = some ⟨H, 0, none⟩ ∧ w1.heap.size ≤ H) ∧ w.heap.size ≤ H ∧ H < w2.heap.size ∧ H ≠ b12 := by
    have e1 := hb1.size
    have e2 := hB.lt
    by_cases hz : 0 < rn
    · have ho : OwnX w2 w1.heap.size 5 1 (.slice a5 rn c5) rn (rs.map (Value.int .u8)) := by
        rcases k5 with h | ⟨h, _⟩
        · exact h
        · omega
      obtain ⟨b, rfl, h3, h4, _⟩ := ho.at hz
      refine ⟨b, fun _ => ⟨rfl, h3⟩, by omega, h4, k5.ne_blk hB (by decide) (fun e => ?_) _ rfl⟩
      have h0 : (rs.map (Value.int .u8)).length = 0 := by rw [e]; rfl
      rw [H_hl1.out] at h0; omega
    · exact ⟨w.heap.size, fun h => absurd h hz, Nat.le_refl _, by omega, by omega⟩
  have HH11 : ∃ H, (0 < bn → a11 = some ⟨H, 0, none⟩) ∧ (bn = 0 → H = w.heap.size) ∧ w.heap.size ≤ H ∧ H < w2.heap.size ∧ H ≠ b12 := by
    have e1 := hb1.size
    have e2 := hB.lt
    by_cases hz : 0 < bn
    · have ho : OwnX w2 w1.heap.size 5 1 (.slice a11 bn c11) bn (bs.map (Value.int .u8)) := by
        rcases k11 with h | ⟨h, _⟩
        · exact h
        · omega
      obtain ⟨b, rfl, h3, h4, _⟩ := ho.at hz
      refine ⟨b, fun _ => rfl, fun h => absurd h (by omega), by omega, h4, k11.ne_blk hB (by decide) (fun e => ?_) _ rfl⟩
      have h0 : (bs.map (Value.int .u8)).length = 0 := by rw [e]; rfl
      rw [H_hl2.out] at h0; omega
    · exact ⟨w.heap.size, fun h => absurd h hz, fun _ => rfl, Nat.le_refl _, by omega, by omega⟩
  obtain ⟨G5, h5a, h5b, h5c, h5d⟩ := HH5
  obtain ⟨G11, h11a, h11z, h11b, h11c, h11d⟩ := HH11
  have hGG : 0 < rn → G5 ≠ G11 := by
    intro h e
    by_cases hz : 0 < bn
    · rcases Hap.out with h' | h' | h'
      · have h0 : (rs.map (Value.int .u8)).length = 0 := by rw [h']; rfl
        rw [H_hl1.out] at h0; omega
      · have h0 : (bs.map (Value.int .u8)).length = 0 := by rw [h']; rfl
        rw [H_hl2.out] at h0; omega
      · rw [(h5a h).1, h11a hz] at h'
        exact h' G5 rfl (by rw [e]; rfl)
    · have e1 := (h5a h).2
      have e2 := h11z (by omega)
      omega
  refine wpList_store_blk rfl 26 _ _ rfl b12 (by rfl) 26 _ [.int .u32 v.a, .int .u32 v.b, .int .u32 v.c, .int .u32 v.d, .int .u32 v.e, .int .u32 v.f, .int .u32 v.g, .int .u32 v.z, .slice a5 rn c5, .int .i64 N] (by rfl) hB (by rfl) infoM (by intro u hu; simp only [List.mem_cons, List.not_mem_nil, or_false] at hu; rcases hu with rfl | rfl | rfl | rfl | rfl | rfl | rfl | rfl | rfl | rfl <;> rfl) ?_
  intro w3 hB3 he3
  have H3 := hid he3
  have hs3 : w2.heap.size = w3.heap.size := by rw [he3, size_setCells]
  have hb3 : Below w.heap.size w w3 := he3 ▸ below_setCells (Nat.le_trans hb1.size hb12) _ _ _ hb2
  have o5 := he3 ▸ k5.setCellsFar hB (by decide) [.int .u32 v.a, .int .u32 v.b, .int .u32 v.c, .int .u32 v.d, .int .u32 v.e, .int .u32 v.f, .int .u32 v.g, .int .u32 v.z, .slice a5 rn c5, .int .i64 N]
  have o11 := he3 ▸ k11.setCellsFar hB (by decide) [.int .u32 v.a, .int .u32 v.b, .int .u32 v.c, .int .u32 v.d, .int .u32 v.e, .int .u32 v.f, .int .u32 v.g, .int .u32 v.z, .slice a5 rn c5, .int .i64 N]
  have hbf : Below b12 w2 w3 := he3 ▸ below_setCells (Nat.le_refl b12) _ 0 w2 (Below.refl _ _)
  have H_h5a := hid h5a
  have H_h11a := hid h11a
  have H_h11z := hid h11z
  have H_hGG := hid hGG
  clear h5a h11a h11z hGG
  have hB3c : ∀ j u, ([.int .u32 v.a, .int .u32 v.b, .int .u32 v.c, .int .u32 v.d, .int .u32 v.e, .int .u32 v.f, .int .u32 v.g, .int .u32 v.z, .slice a5 rn c5, .int .i64 N] : List Value)[j]? = some u → w3.cell? ⟨b12, j, none⟩ = some u := fun j u hj => hB3.cell hj
  have O_0 : w3.cell? ⟨b12, 0, none⟩ = some (.int .u32 v.a) := hB3c 0 _ rfl
  have O_1 : w3.cell? ⟨b12, 1, none⟩ = some (.int .u32 v.b) := hB3c 1 _ rfl
  have O_2 : w3.cell? ⟨b12, 2, none⟩ = some (.int .u32 v.c) := hB3c 2 _ rfl
  have O_3 : w3.cell? ⟨b12, 3, none⟩ = some (.int .u32 v.d) := hB3c 3 _ rfl
  have O_4 : w3.cell? ⟨b12, 4, none⟩ = some (.int .u32 v.e) := hB3c 4 _ rfl
  have O_5 : w3.cell? ⟨b12, 5, none⟩ = some (.int .u32 v.f) := hB3c 5 _ rfl
  have O_6 : w3.cell? ⟨b12, 6, none⟩ = some (.int .u32 v.g) := hB3c 6 _ rfl
  have O_7 : w3.cell? ⟨b12, 7, none⟩ = some (.int .u32 v.z) := hB3c 7 _ rfl
  have O_8 : w3.cell? ⟨b12, 8, none⟩ = some (.slice a5 rn c5) := hB3c 8 _ rfl
  have O_9 : w3.cell? ⟨b12, 9, none⟩ = some (.int .i64 N) := hB3c 9 _ rfl
  have O_l : b12 < w3.heap.size := hB3.lt
  have hbM : ∀ o, w3.cell? ⟨w.heap.size, o, none⟩ = w2.cell? ⟨w.heap.size, o, none⟩ := fun o => hbf.cell (p := ⟨w.heap.size, o, none⟩) (by simp; omega)
  replace M_0 := (hbM 0).trans M_0
  replace M_1 := (hbM 1).trans M_1
  replace M_2 := (hbM 2).trans M_2
  replace M_3 := (hbM 3).trans M_3
  replace M_4 := (hbM 4).trans M_4
  replace M_5 := (hbM 5).trans M_5
  replace M_6 := (hbM 6).trans M_6
  replace M_7 := (hbM 7).trans M_7
  replace M_8 := (hbM 8).trans M_8
  replace M_9 := (hbM 9).trans M_9
  replace M_l := Nat.lt_of_lt_of_le M_l (Nat.le_of_eq hs3)
  have hz3 : G5 < w3.heap.size ∧ G11 < w3.heap.size := by omega
  obtain ⟨h5z, h11z⟩ := hz3
  have kr : CellsAt w3 ra (rs.map (Value.int .u8)) := hr.later hb3
  have kb : CellsAt w3 ba (bs.map (Value.int .u8)) := hb.later hb3
  have kK : CellsAt w3 (some ⟨0, 0, none⟩) (kcs.map (Value.int .u32)) := hK.later hb3
  clear hB3c hbf hbM hs3 he3 hB kr1 kb1 kK1 hw1 hb2 hb1 k5 k11
  have g3 : AtLeast w3.heap.size w3 := Nat.le_refl _
  obtain ⟨aw, ar, aN, ae, hA⟩ : ∃ aw ar aN ae, addM v.list rs N bs = (aw, ar, aN, ae) := ⟨_, _, _, _, rfl⟩
  have hal : ar.length ≤ rn + bn := by
    have := addM_rest v.list rs bs N
    rw [hA, ← H_hrn.out, ← H_hbn.out] at this; exact this
  obtain ⟨dl, de, hD⟩ : ∃ dl de, endM v.list rs N = (dl, de) := ⟨_, _, rfl⟩
  obtain ⟨dv, hdv⟩ : ∃ dv, dv = dl.map (Value.int .u8) := ⟨_, rfl⟩
  have hdl : dl.length = 32 := by have := endM_len v.list rs N; rw [hD] at this; exact this
  have hvl : dv.length = 32 := by rw [hdv, List.length_map, hdl]
  have hdo : ∀ x ∈ dv, x.oneCell' = true := by rw [hdv]; exact oneCell_ints _ _
  have hdi : (Tryd.prog.info? 33).map (·.size) = some dv.length := by rw [hvl]; exact info32
  have hdr : dv.length = (List.replicate 32 (Value.int .u8 0)).length := by rw [hvl]; rfl
  have hsum : rn + bn ≤ 140737488355327 := by omega
  have H_hA := hid hA
  have H_hD := hid hD
  have H_hdv := hid hdv
  have H_hdl := hid hdl
  have H_hvl := hid hvl
  have H_hdo := hid hdo
  have H_hdi := hid hdi
  have H_hdr := hid hdr
  have H_hal := hid hal
  clear hA hD hdv hdl hvl hdo hdi hdr hal
  go_wp2_with fail
  with_reducible refine (add_r H_hA.out a5 a11 rn c5 bn c11 _ H_hv.out H_hrn.out H_hbn.out o5.cells.2 o11.cells.2 hr8 hb8 kK (hw3f _ hb3) hsum).mono ?_
  rintro e w4 ⟨⟨ua, a2, m2, c2, rfl, hua, hm2, k2, hf2⟩, hc4⟩
  have hb4 : Below w.heap.size w w4 := bchain (by repeat' (first | with_reducible exact hb3 | with_reducible refine Below.drew ?_ | with_reducible refine below_drewN ?_ _ | with_reducible refine Below.alloc ?_ (by have := hb3.size; first | (simp; done) | (simp; omega) | omega) _ | with_reducible refine Below.setCell ?_ (by first | (simp; done) | (simp; omega) | omega) _)) hc4
  have hst4 : Below w3.heap.size w3 w4 := bchain (by repeat' (first | with_reducible exact Below.refl _ _ | with_reducible refine Below.drew ?_ | with_reducible refine below_drewN ?_ _ | with_reducible refine Below.alloc ?_ (by first | (simp; done) | (simp; omega) | omega) _ | with_reducible refine Below.setCell ?_ (by first | (simp; done) | (simp; omega) | omega) _)) hc4
  replace M_0 := cell_later hst4 M_0
  replace M_1 := cell_later hst4 M_1
  replace M_2 := cell_later hst4 M_2
  replace M_3 := cell_later hst4 M_3
  replace M_4 := cell_later hst4 M_4
  replace M_5 := cell_later hst4 M_5
  replace M_6 := cell_later hst4 M_6
  replace M_7 := cell_later hst4 M_7
  replace M_8 := cell_later hst4 M_8
  replace M_9 := cell_later hst4 M_9
  replace M_l := Nat.lt_of_lt_of_le M_l hst4.size
  replace O_0 := cell_later hst4 O_0
  replace O_1 := cell_later hst4 O_1
  replace O_2 := cell_later hst4 O_2
  replace O_3 := cell_later hst4 O_3
  replace O_4 := cell_later hst4 O_4
  replace O_5 := cell_later hst4 O_5
  replace O_6 := cell_later hst4 O_6
  replace O_7 := cell_later hst4 O_7
  replace O_8 := cell_later hst4 O_8
  replace O_9 := cell_later hst4 O_9
  replace O_l := Nat.lt_of_lt_of_le O_l hst4.size
  replace kr := kr.later hst4
  replace kb := kb.later hst4
  replace kK := kK.later hst4
  replace o5 := o5.later hst4
  replace o11 := o11.later hst4
  replace g3 := g3.later hst4
  clear hst4
  clear hc4 hb3
  have H_hua := hid hua
  have H_hm2 := hid hm2
  have H_hf2 := hid hf2
  clear hua hm2 hf2
  have zA := g3.le
  go_upto_region 5 with (fail)
  refine wp_gen fun w5 hc5 => ?_
  have hb5 : Below w.heap.size w w5 := bchain (by repeat' (first | with_reducible exact hb4 | with_reducible refine Below.drew ?_ | with_reducible refine below_drewN ?_ _ | with_reducible refine Below.alloc ?_ (by have := hb4.size; first | (simp; done) | (simp; omega) | omega) _ | with_reducible refine Below.setCell ?_ (by first | (simp; done) | (simp; omega) | omega) _)) hc5
  have hst5 : Below w4.heap.size w4 w5 := bchain (by repeat' (first | with_reducible exact Below.refl _ _ | with_reducible refine Below.drew ?_ | with_reducible refine below_drewN ?_ _ | with_reducible refine Below.alloc ?_ (by first | (simp; done) | (simp; omega) | omega) _ | with_reducible refine Below.setCell ?_ (by first | (simp; done) | (simp; omega) | omega) _)) hc5
  replace M_0 := cell_later hst5 M_0
  replace M_1 := cell_later hst5 M_1
  replace M_2 := cell_later hst5 M_2
  replace M_3 := cell_later hst5 M_3
  replace M_4 := cell_later hst5 M_4
  replace M_5 := cell_later hst5 M_5
  replace M_6 := cell_later hst5 M_6
  replace M_7 := cell_later hst5 M_7
  replace M_8 := cell_later hst5 M_8
  replace M_9 := cell_later hst5 M_9
  replace M_l := Nat.lt_of_lt_of_le M_l hst5.size
  replace O_0 := cell_later hst5 O_0
  replace O_1 := cell_later hst5 O_1
  replace O_2 := cell_later hst5 O_2
  replace O_3 := cell_later hst5 O_3
  replace O_4 := cell_later hst5 O_4
  replace O_5 := cell_later hst5 O_5
  replace O_6 := cell_later hst5 O_6
  replace O_7 := cell_later hst5 O_7
  replace O_8 := cell_later hst5 O_8
  replace O_9 := cell_later hst5 O_9
  replace O_l := Nat.lt_of_lt_of_le O_l hst5.size
  have A_0 : w5.cell? ⟨w4.heap.size, 0, none⟩ = some (.int .u32 ua.a) := (hc5.cell (p := ⟨w4.heap.size, 0, none⟩) (by first | (simp; done) | (simp; omega))).trans (by first | (simp; done) | go_simp)
  have A_1 : w5.cell? ⟨w4.heap.size, 1, none⟩ = some (.int .u32 ua.b) := (hc5.cell (p := ⟨w4.heap.size, 1, none⟩) (by first | (simp; done) | (simp; omega))).trans (by first | (simp; done) | go_simp)
  have A_2 : w5.cell? ⟨w4.heap.size, 2, none⟩ = some (.int .u32 ua.c) := (hc5.cell (p := ⟨w4.heap.size, 2, none⟩) (by first | (simp; done) | (simp; omega))).trans (by first | (simp; done) | go_simp)
  have A_3 : w5.cell? ⟨w4.heap.size, 3, none⟩ = some (.int .u32 ua.d) := (hc5.cell (p := ⟨w4.heap.size, 3, none⟩) (by first | (simp; done) | (simp; omega))).trans (by first | (simp; done) | go_simp)
  have A_4 : w5.cell? ⟨w4.heap.size, 4, none⟩ = some (.int .u32 ua.e) := (hc5.cell (p := ⟨w4.heap.size, 4, none⟩) (by first | (simp; done) | (simp; omega))).trans (by first | (simp; done) | go_simp)
  have A_5 : w5.cell? ⟨w4.heap.size, 5, none⟩ = some (.int .u32 ua.f) := (hc5.cell (p := ⟨w4.heap.size, 5, none⟩) (by first | (simp; done) | (simp; omega))).trans (by first | (simp; done) | go_simp)
  have A_6 : w5.cell? ⟨w4.heap.size, 6, none⟩ = some (.int .u32 ua.g) := (hc5.cell (p := ⟨w4.heap.size, 6, none⟩) (by first | (simp; done) | (simp; omega))).trans (by first | (simp; done) | go_simp)
  have A_7 : w5.cell? ⟨w4.heap.size, 7, none⟩ = some (.int .u32 ua.z) := (hc5.cell (p := ⟨w4.heap.size, 7, none⟩) (by first | (simp; done) | (simp; omega))).trans (by first | (simp; done) | go_simp)
  have A_8 : w5.cell? ⟨w4.heap.size, 8, none⟩ = some (.slice a2 m2 c2) := (hc5.cell (p := ⟨w4.heap.size, 8, none⟩) (by first | (simp; done) | (simp; omega))).trans (by first | (simp; done) | go_simp)
  have A_9 : w5.cell? ⟨w4.heap.size, 9, none⟩ = some (.int .i64 aN) := (hc5.cell (p := ⟨w4.heap.size, 9, none⟩) (by first | (simp; done) | (simp; omega))).trans (by first | (simp; done) | go_simp)
  have A_l : w4.heap.size < w5.heap.size := Nat.lt_of_lt_of_le (by first | (simp; done) | (simp; omega)) hc5.size
  replace kr := kr.later hst5
  replace kb := kb.later hst5
  replace kK := kK.later hst5
  replace o5 := o5.later hst5
  replace o11 := o11.later hst5
  replace g3 := g3.later hst5
  replace k2 := k2.later hst5
  clear hst5
  clear hc5 hb4
  have zB5 := g3.le
  go_wp2_with fail
  with_reducible refine (radd_r H_hA.out ra ba rn rc bn bc _ H_hv.out H_hrn.out H_hbn.out kr kb hr8 hb8 kK (hw3f _ hb5) hsum).mono ?_
  rintro e w6 ⟨⟨ub, a3, m3, c3, rfl, hub, hm3, k3, hf3⟩, hc6⟩
  have hb6 : Below w.heap.size w w6 := bchain (by repeat' (first | with_reducible exact hb5 | with_reducible refine Below.drew ?_ | with_reducible refine below_drewN ?_ _ | with_reducible refine Below.alloc ?_ (by have := hb5.size; first | (simp; done) | (simp; omega) | omega) _ | with_reducible refine Below.setCell ?_ (by first | (simp; done) | (simp; omega) | omega) _)) hc6
  have hst6 : Below w5.heap.size w5 w6 := bchain (by repeat' (first | with_reducible exact Below.refl _ _ | with_reducible refine Below.drew ?_ | with_reducible refine below_drewN ?_ _ | with_reducible refine Below.alloc ?_ (by first | (simp; done) | (simp; omega) | omega) _ | with_reducible refine Below.setCell ?_ (by first | (simp; done) | (simp; omega) | omega) _)) hc6
  replace M_0 := cell_later hst6 M_0
  replace M_1 := cell_later hst6 M_1
  replace M_2 := cell_later hst6 M_2
  replace M_3 := cell_later hst6 M_3
  replace M_4 := cell_later hst6 M_4
  replace M_5 := cell_later hst6 M_5
  replace M_6 := cell_later hst6 M_6
  replace M_7 := cell_later hst6 M_7
  replace M_8 := cell_later hst6 M_8
  replace M_9 := cell_later hst6 M_9
  replace M_l := Nat.lt_of_lt_of_le M_l hst6.size
  replace O_0 := cell_later hst6 O_0
  replace O_1 := cell_later hst6 O_1
  replace O_2 := cell_later hst6 O_2
  replace O_3 := cell_later hst6 O_3
  replace O_4 := cell_later hst6 O_4
  replace O_5 := cell_later hst6 O_5
  replace O_6 := cell_later hst6 O_6
  replace O_7 := cell_later hst6 O_7
  replace O_8 := cell_later hst6 O_8
  replace O_9 := cell_later hst6 O_9
  replace O_l := Nat.lt_of_lt_of_le O_l hst6.size
  replace A_0 := cell_later hst6 A_0
  replace A_1 := cell_later hst6 A_1
  replace A_2 := cell_later hst6 A_2
  replace A_3 := cell_later hst6 A_3
  replace A_4 := cell_later hst6 A_4
  replace A_5 := cell_later hst6 A_5
  replace A_6 := cell_later hst6 A_6
  replace A_7 := cell_later hst6 A_7
  replace A_8 := cell_later hst6 A_8
  replace A_9 := cell_later hst6 A_9
  replace A_l := Nat.lt_of_lt_of_le A_l hst6.size
  replace kr := kr.later hst6
  replace kb := kb.later hst6
  replace kK := kK.later hst6
  replace o5 := o5.later hst6
  replace o11 := o11.later hst6
  replace g3 := g3.later hst6
  replace k2 := k2.later hst6
  clear hst6
  clear hc6 hb5
  have H_hub := hid hub
  have H_hm3 := hid hm3
  have H_hf3 := hid hf3
  clear hub hm3 hf3
  have zB := g3.le
  go_upto_region 6 with (fail)
  refine wp_gen fun w7 hc7 => ?_
  have hb7 : Below w.heap.size w w7 := bchain (by repeat' (first | with_reducible exact hb6 | with_reducible refine Below.drew ?_ | with_reducible refine below_drewN ?_ _ | with_reducible refine Below.alloc ?_ (by have := hb6.size; first | (simp; done) | (simp; omega) | omega) _ | with_reducible refine Below.setCell ?_ (by first | (simp; done) | (simp; omega) | omega) _)) hc7
  have hst7 : Below w6.heap.size w6 w7 := bchain (by repeat' (first | with_reducible exact Below.refl _ _ | with_reducible refine Below.drew ?_ | with_reducible refine below_drewN ?_ _ | with_reducible refine Below.alloc ?_ (by first | (simp; done) | (simp; omega) | omega) _ | with_reducible refine Below.setCell ?_ (by first | (simp; done) | (simp; omega) | omega) _)) hc7
  replace M_0 := cell_later hst7 M_0
  replace M_1 := cell_later hst7 M_1
  replace M_2 := cell_later hst7 M_2
  replace M_3 := cell_later hst7 M_3
  replace M_4 := cell_later hst7 M_4
  replace M_5 := cell_later hst7 M_5
  replace M_6 := cell_later hst7 M_6
  replace M_7 := cell_later hst7 M_7
  replace M_8 := cell_later hst7 M_8
  replace M_9 := cell_later hst7 M_9
  replace M_l := Nat.lt_of_lt_of_le M_l hst7.size
  replace O_0 := cell_later hst7 O_0
  replace O_1 := cell_later hst7 O_1
  replace O_2 := cell_later hst7 O_2
  replace O_3 := cell_later hst7 O_3
  replace O_4 := cell_later hst7 O_4
  replace O_5 := cell_later hst7 O_5
  replace O_6 := cell_later hst7 O_6
  replace O_7 := cell_later hst7 O_7
  replace O_8 := cell_later hst7 O_8
  replace O_9 := cell_later hst7 O_9
  replace O_l := Nat.lt_of_lt_of_le O_l hst7.size
  replace A_0 := cell_later hst7 A_0
  replace A_1 := cell_later hst7 A_1
  replace A_2 := cell_later hst7 A_2
  replace A_3 := cell_later hst7 A_3
  replace A_4 := cell_later hst7 A_4
  replace A_5 := cell_later hst7 A_5
  replace A_6 := cell_later hst7 A_6
  replace A_7 := cell_later hst7 A_7
  replace A_8 := cell_later hst7 A_8
  replace A_9 := cell_later hst7 A_9
  replace A_l := Nat.lt_of_lt_of_le A_l hst7.size
  have B_0 : w7.cell? ⟨w6.heap.size, 0, none⟩ = some (.int .u32 ub.a) := (hc7.cell (p := ⟨w6.heap.size, 0, none⟩) (by first | (simp; done) | (simp; omega))).trans (by first | (simp; done) | go_simp)
  have B_1 : w7.cell? ⟨w6.heap.size, 1, none⟩ = some (.int .u32 ub.b) := (hc7.cell (p := ⟨w6.heap.size, 1, none⟩) (by first | (simp; done) | (simp; omega))).trans (by first | (simp; done) | go_simp)
  have B_2 : w7.cell? ⟨w6.heap.size, 2, none⟩ = some (.int .u32 ub.c) := (hc7.cell (p := ⟨w6.heap.size, 2, none⟩) (by first | (simp; done) | (simp; omega))).trans (by first | (simp; done) | go_simp)
  have B_3 : w7.cell? ⟨w6.heap.size, 3, none⟩ = some (.int .u32 ub.d) := (hc7.cell (p := ⟨w6.heap.size, 3, none⟩) (by first | (simp; done) | (simp; omega))).trans (by first | (simp; done) | go_simp)
  have B_4 : w7.cell? ⟨w6.heap.size, 4, none⟩ = some (.int .u32 ub.e) := (hc7.cell (p := ⟨w6.heap.size, 4, none⟩) (by first | (simp; done) | (simp; omega))).trans (by first | (simp; done) | go_simp)
  have B_5 : w7.cell? ⟨w6.heap.size, 5, none⟩ = some (.int .u32 ub.f) := (hc7.cell (p := ⟨w6.heap.size, 5, none⟩) (by first | (simp; done) | (simp; omega))).trans (by first | (simp; done) | go_simp)
  have B_6 : w7.cell? ⟨w6.heap.size, 6, none⟩ = some (.int .u32 ub.g) := (hc7.cell (p := ⟨w6.heap.size, 6, none⟩) (by first | (simp; done) | (simp; omega))).trans (by first | (simp; done) | go_simp)
  have B_7 : w7.cell? ⟨w6.heap.size, 7, none⟩ = some (.int .u32 ub.z) := (hc7.cell (p := ⟨w6.heap.size, 7, none⟩) (by first | (simp; done) | (simp; omega))).trans (by first | (simp; done) | go_simp)
  have B_8 : w7.cell? ⟨w6.heap.size, 8, none⟩ = some (.slice a3 m3 c3) := (hc7.cell (p := ⟨w6.heap.size, 8, none⟩) (by first | (simp; done) | (simp; omega))).trans (by first | (simp; done) | go_simp)
  have B_9 : w7.cell? ⟨w6.heap.size, 9, none⟩ = some (.int .i64 aN) := (hc7.cell (p := ⟨w6.heap.size, 9, none⟩) (by first | (simp; done) | (simp; omega))).trans (by first | (simp; done) | go_simp)
  have B_l : w6.heap.size < w7.heap.size := Nat.lt_of_lt_of_le (by first | (simp; done) | (simp; omega)) hc7.size
  replace kr := kr.later hst7
  replace kb := kb.later hst7
  replace kK := kK.later hst7
  replace o5 := o5.later hst7
  replace o11 := o11.later hst7
  replace g3 := g3.later hst7
  replace k2 := k2.later hst7
  replace k3 := k3.later hst7
  clear hst7
  clear hc7 hb6
  go_wp2_with fail
  with_reducible refine (end_r H_hD.out H_hdv.out a5 rn c5 _ H_hv.out H_hrn.out o5.cells.2 hr8 kK (hw3f _ hb7)).mono ?_
  rintro e w8 ⟨rfl, hc8⟩
  have hb8 : Below w.heap.size w w8 := bchain (by repeat' (first | with_reducible exact hb7 | with_reducible refine Below.drew ?_ | with_reducible refine below_drewN ?_ _ | with_reducible refine Below.alloc ?_ (by have := hb7.size; first | (simp; done) | (simp; omega) | omega) _ | with_reducible refine Below.setCell ?_ (by first | (simp; done) | (simp; omega) | omega) _)) hc8
  have hst8 : Below w7.heap.size w7 w8 := bchain (by repeat' (first | with_reducible exact Below.refl _ _ | with_reducible refine Below.drew ?_ | with_reducible refine below_drewN ?_ _ | with_reducible refine Below.alloc ?_ (by first | (simp; done) | (simp; omega) | omega) _ | with_reducible refine Below.setCell ?_ (by first | (simp; done) | (simp; omega) | omega) _)) hc8
  replace M_0 := cell_later hst8 M_0
  replace M_1 := cell_later hst8 M_1
  replace M_2 := cell_later hst8 M_2
  replace M_3 := cell_later hst8 M_3
  replace M_4 := cell_later hst8 M_4
  replace M_5 := cell_later hst8 M_5
  replace M_6 := cell_later hst8 M_6
  replace M_7 := cell_later hst8 M_7
  replace M_8 := cell_later hst8 M_8
  replace M_9 := cell_later hst8 M_9
  replace M_l := Nat.lt_of_lt_of_le M_l hst8.size
  replace O_0 := cell_later hst8 O_0
  replace O_1 := cell_later hst8 O_1
  replace O_2 := cell_later hst8 O_2
  replace O_3 := cell_later hst8 O_3
  replace O_4 := cell_later hst8 O_4
  replace O_5 := cell_later hst8 O_5
  replace O_6 := cell_later hst8 O_6
  replace O_7 := cell_later hst8 O_7
  replace O_8 := cell_later hst8 O_8
  replace O_9 := cell_later hst8 O_9
  replace O_l := Nat.lt_of_lt_of_le O_l hst8.size
  replace A_0 := cell_later hst8 A_0
  replace A_1 := cell_later hst8 A_1
  replace A_2 := cell_later hst8 A_2
  replace A_3 := cell_later hst8 A_3
  replace A_4 := cell_later hst8 A_4
  replace A_5 := cell_later hst8 A_5
  replace A_6 := cell_later hst8 A_6
  replace A_7 := cell_later hst8 A_7
  replace A_8 := cell_later hst8 A_8
  replace A_9 := cell_later hst8 A_9
  replace A_l := Nat.lt_of_lt_of_le A_l hst8.size
  replace B_0 := cell_later hst8 B_0
  replace B_1 := cell_later hst8 B_1
  replace B_2 := cell_later hst8 B_2
  replace B_3 := cell_later hst8 B_3
  replace B_4 := cell_later hst8 B_4
  replace B_5 := cell_later hst8 B_5
  replace B_6 := cell_later hst8 B_6
  replace B_7 := cell_later hst8 B_7
  replace B_8 := cell_later hst8 B_8
  replace B_9 := cell_later hst8 B_9
  replace B_l := Nat.lt_of_lt_of_le B_l hst8.size
  replace kr := kr.later hst8
  replace kb := kb.later hst8
  replace kK := kK.later hst8
  replace o5 := o5.later hst8
  replace o11 := o11.later hst8
  replace g3 := g3.later hst8
  replace k2 := k2.later hst8
  replace k3 := k3.later hst8
  clear hst8
  clear hc8 hb7
  have zD := g3.le
  have hN8 := Blk.new w8 w8.heap.size (List.replicate 32 (Value.int .u8 0)) 33 rfl
  go_upto_region 7 with (refine wpList_store_blk rfl 33 _ _ rfl w8.heap.size (by rfl) 33 _ dv (by rfl) hN8 H_hdr.out H_hdi.out H_hdo.out ?_; intro w9 hD9 he9; have H9 := hid he9; clear he9)
  have hc9 : Below w8.heap.size w8 w9 := H9.out ▸ below_setCells (Nat.le_refl _) _ _ _ ((Below.refl _ _).alloc (Nat.le_refl _) _)
  clear hN8
  have hb9 : Below w.heap.size w w9 := bchain (by repeat' (first | with_reducible exact hb8 | with_reducible refine Below.drew ?_ | with_reducible refine below_drewN ?_ _ | with_reducible refine Below.alloc ?_ (by have := hb8.size; first | (simp; done) | (simp; omega) | omega) _ | with_reducible refine Below.setCell ?_ (by first | (simp; done) | (simp; omega) | omega) _)) hc9
  have hst9 : Below w8.heap.size w8 w9 := bchain (by repeat' (first | with_reducible exact Below.refl _ _ | with_reducible refine Below.drew ?_ | with_reducible refine below_drewN ?_ _ | with_reducible refine Below.alloc ?_ (by first | (simp; done) | (simp; omega) | omega) _ | with_reducible refine Below.setCell ?_ (by first | (simp; done) | (simp; omega) | omega) _)) hc9
  replace M_0 := cell_later hst9 M_0
  replace M_1 := cell_later hst9 M_1
  replace M_2 := cell_later hst9 M_2
  replace M_3 := cell_later hst9 M_3
  replace M_4 := cell_later hst9 M_4
  replace M_5 := cell_later hst9 M_5
  replace M_6 := cell_later hst9 M_6
  replace M_7 := cell_later hst9 M_7
  replace M_8 := cell_later hst9 M_8
  replace M_9 := cell_later hst9 M_9
  replace M_l := Nat.lt_of_lt_of_le M_l hst9.size
  replace O_0 := cell_later hst9 O_0
  replace O_1 := cell_later hst9 O_1
  replace O_2 := cell_later hst9 O_2
  replace O_3 := cell_later hst9 O_3
  replace O_4 := cell_later hst9 O_4
  replace O_5 := cell_later hst9 O_5
  replace O_6 := cell_later hst9 O_6
  replace O_7 := cell_later hst9 O_7
  replace O_8 := cell_later hst9 O_8
  replace O_9 := cell_later hst9 O_9
  replace O_l := Nat.lt_of_lt_of_le O_l hst9.size
  replace A_0 := cell_later hst9 A_0
  replace A_1 := cell_later hst9 A_1
  replace A_2 := cell_later hst9 A_2
  replace A_3 := cell_later hst9 A_3
  replace A_4 := cell_later hst9 A_4
  replace A_5 := cell_later hst9 A_5
  replace A_6 := cell_later hst9 A_6
  replace A_7 := cell_later hst9 A_7
  replace A_8 := cell_later hst9 A_8
  replace A_9 := cell_later hst9 A_9
  replace A_l := Nat.lt_of_lt_of_le A_l hst9.size
  replace B_0 := cell_later hst9 B_0
  replace B_1 := cell_later hst9 B_1
  replace B_2 := cell_later hst9 B_2
  replace B_3 := cell_later hst9 B_3
  replace B_4 := cell_later hst9 B_4
  replace B_5 := cell_later hst9 B_5
  replace B_6 := cell_later hst9 B_6
  replace B_7 := cell_later hst9 B_7
  replace B_8 := cell_later hst9 B_8
  replace B_9 := cell_later hst9 B_9
  replace B_l := Nat.lt_of_lt_of_le B_l hst9.size
  replace kr := kr.later hst9
  replace kb := kb.later hst9
  replace kK := kK.later hst9
  replace o5 := o5.later hst9
  replace o11 := o11.later hst9
  replace g3 := g3.later hst9
  replace k2 := k2.later hst9
  replace k3 := k3.later hst9
  clear hst9
  clear hc9 hb8 H9
  go_wp2_with fail
  with_reducible refine (rend_r H_hD.out H_hdv.out ra rn rc _ H_hv.out H_hrn.out kr hr8).mono ?_
  rintro e w10 ⟨rfl, hc10⟩
  have hb10 : Below w.heap.size w w10 := bchain (by repeat' (first | with_reducible exact hb9 | with_reducible refine Below.drew ?_ | with_reducible refine below_drewN ?_ _ | with_reducible refine Below.alloc ?_ (by have := hb9.size; first | (simp; done) | (simp; omega) | omega) _ | with_reducible refine Below.setCell ?_ (by first | (simp; done) | (simp; omega) | omega) _)) hc10
  have hst10 : Below w9.heap.size w9 w10 := bchain (by repeat' (first | with_reducible exact Below.refl _ _ | with_reducible refine Below.drew ?_ | with_reducible refine below_drewN ?_ _ | with_reducible refine Below.alloc ?_ (by first | (simp; done) | (simp; omega) | omega) _ | with_reducible refine Below.setCell ?_ (by first | (simp; done) | (simp; omega) | omega) _)) hc10
  replace M_0 := cell_later hst10 M_0
  replace M_1 := cell_later hst10 M_1
  replace M_2 := cell_later hst10 M_2
  replace M_3 := cell_later hst10 M_3
  replace M_4 := cell_later hst10 M_4
  replace M_5 := cell_later hst10 M_5
  replace M_6 := cell_later hst10 M_6
  replace M_7 := cell_later hst10 M_7
  replace M_8 := cell_later hst10 M_8
  replace M_9 := cell_later hst10 M_9
  replace M_l := Nat.lt_of_lt_of_le M_l hst10.size
  replace O_0 := cell_later hst10 O_0
  replace O_1 := cell_later hst10 O_1
  replace O_2 := cell_later hst10 O_2
  replace O_3 := cell_later hst10 O_3
  replace O_4 := cell_later hst10 O_4
  replace O_5 := cell_later hst10 O_5
  replace O_6 := cell_later hst10 O_6
  replace O_7 := cell_later hst10 O_7
  replace O_8 := cell_later hst10 O_8
  replace O_9 := cell_later hst10 O_9
  replace O_l := Nat.lt_of_lt_of_le O_l hst10.size
  replace A_0 := cell_later hst10 A_0
  replace A_1 := cell_later hst10 A_1
  replace A_2 := cell_later hst10 A_2
  replace A_3 := cell_later hst10 A_3
  replace A_4 := cell_later hst10 A_4
  replace A_5 := cell_later hst10 A_5
  replace A_6 := cell_later hst10 A_6
  replace A_7 := cell_later hst10 A_7
  replace A_8 := cell_later hst10 A_8
  replace A_9 := cell_later hst10 A_9
  replace A_l := Nat.lt_of_lt_of_le A_l hst10.size
  replace B_0 := cell_later hst10 B_0
  replace B_1 := cell_later hst10 B_1
  replace B_2 := cell_later hst10 B_2
  replace B_3 := cell_later hst10 B_3
  replace B_4 := cell_later hst10 B_4
  replace B_5 := cell_later hst10 B_5
  replace B_6 := cell_later hst10 B_6
  replace B_7 := cell_later hst10 B_7
  replace B_8 := cell_later hst10 B_8
  replace B_9 := cell_later hst10 B_9
  replace B_l := Nat.lt_of_lt_of_le B_l hst10.size
  replace kr := kr.later hst10
  replace kb := kb.later hst10
  replace kK := kK.later hst10
  replace o5 := o5.later hst10
  replace o11 := o11.later hst10
  replace g3 := g3.later hst10
  replace k2 := k2.later hst10
  replace k3 := k3.later hst10
  replace hD9 := hD9.later hst10
  clear hst10
  clear hc10 hb9
  have zE := g3.le
  have hN10 := Blk.new w10 w10.heap.size (List.replicate 32 (Value.int .u8 0)) 33 rfl
  go_upto_region 8 with (refine wpList_store_blk rfl 33 _ _ rfl w10.heap.size (by rfl) 33 _ dv (by rfl) hN10 H_hdr.out H_hdi.out H_hdo.out ?_; intro w11 hE11 he11; have H11 := hid he11; clear he11)
  have hc11 : Below w10.heap.size w10 w11 := H11.out ▸ below_setCells (Nat.le_refl _) _ _ _ ((Below.refl _ _).alloc (Nat.le_refl _) _)
  clear hN10
  have hb11 : Below w.heap.size w w11 := bchain (by repeat' (first | with_reducible exact hb10 | with_reducible refine Below.drew ?_ | with_reducible refine below_drewN ?_ _ | with_reducible refine Below.alloc ?_ (by have := hb10.size; first | (simp; done) | (simp; omega) | omega) _ | with_reducible refine Below.setCell ?_ (by first | (simp; done) | (simp; omega) | omega) _)) hc11
  have hst11 : Below w10.heap.size w10 w11 := bchain (by repeat' (first | with_reducible exact Below.refl _ _ | with_reducible refine Below.drew ?_ | with_reducible refine below_drewN ?_ _ | with_reducible refine Below.alloc ?_ (by first | (simp; done) | (simp; omega) | omega) _ | with_reducible refine Below.setCell ?_ (by first | (simp; done) | (simp; omega) | omega) _)) hc11
  replace M_0 := cell_later hst11 M_0
  replace M_1 := cell_later hst11 M_1
  replace M_2 := cell_later hst11 M_2
  replace M_3 := cell_later hst11 M_3
  replace M_4 := cell_later hst11 M_4
  replace M_5 := cell_later hst11 M_5
  replace M_6 := cell_later hst11 M_6
  replace M_7 := cell_later hst11 M_7
  replace M_8 := cell_later hst11 M_8
  replace M_9 := cell_later hst11 M_9
  replace M_l := Nat.lt_of_lt_of_le M_l hst11.size
  replace O_0 := cell_later hst11 O_0
  replace O_1 := cell_later hst11 O_1
  replace O_2 := cell_later hst11 O_2
  replace O_3 := cell_later hst11 O_3
  replace O_4 := cell_later hst11 O_4
  replace O_5 := cell_later hst11 O_5
  replace O_6 := cell_later hst11 O_6
  replace O_7 := cell_later hst11 O_7
  replace O_8 := cell_later hst11 O_8
  replace O_9 := cell_later hst11 O_9
  replace O_l := Nat.lt_of_lt_of_le O_l hst11.size
  replace A_0 := cell_later hst11 A_0
  replace A_1 := cell_later hst11 A_1
  replace A_2 := cell_later hst11 A_2
  replace A_3 := cell_later hst11 A_3
  replace A_4 := cell_later hst11 A_4
  replace A_5 := cell_later hst11 A_5
  replace A_6 := cell_later hst11 A_6
  replace A_7 := cell_later hst11 A_7
  replace A_8 := cell_later hst11 A_8
  replace A_9 := cell_later hst11 A_9
  replace A_l := Nat.lt_of_lt_of_le A_l hst11.size
  replace B_0 := cell_later hst11 B_0
  replace B_1 := cell_later hst11 B_1
  replace B_2 := cell_later hst11 B_2
  replace B_3 := cell_later hst11 B_3
  replace B_4 := cell_later hst11 B_4
  replace B_5 := cell_later hst11 B_5
  replace B_6 := cell_later hst11 B_6
  replace B_7 := cell_later hst11 B_7
  replace B_8 := cell_later hst11 B_8
  replace B_9 := cell_later hst11 B_9
  replace B_l := Nat.lt_of_lt_of_le B_l hst11.size
  replace kr := kr.later hst11
  replace kb := kb.later hst11
  replace kK := kK.later hst11
  replace o5 := o5.later hst11
  replace o11 := o11.later hst11
  replace g3 := g3.later hst11
  replace k2 := k2.later hst11
  replace k3 := k3.later hst11
  replace hD9 := hD9.later hst11
  clear hst11
  clear hc11 hb10 H11
  go_wp2_with fail
  with_reducible refine (same_self v v N rs a5 ra rn rn c5 rc _ rfl H_hrn.out H_hrn.out (by omega) o5.cells.2 kr).mono ?_
  rintro e w12 ⟨rfl, hc12⟩
  have hb12 : Below w.heap.size w w12 := bchain (by repeat' (first | with_reducible exact hb11 | with_reducible refine Below.drew ?_ | with_reducible refine below_drewN ?_ _ | with_reducible refine Below.alloc ?_ (by have := hb11.size; first | (simp; done) | (simp; omega) | omega) _ | with_reducible refine Below.setCell ?_ (by first | (simp; done) | (simp; omega) | omega) _)) hc12
  have hst12 : Below w11.heap.size w11 w12 := bchain (by repeat' (first | with_reducible exact Below.refl _ _ | with_reducible refine Below.drew ?_ | with_reducible refine below_drewN ?_ _ | with_reducible refine Below.alloc ?_ (by first | (simp; done) | (simp; omega) | omega) _ | with_reducible refine Below.setCell ?_ (by first | (simp; done) | (simp; omega) | omega) _)) hc12
  replace M_0 := cell_later hst12 M_0
  replace M_1 := cell_later hst12 M_1
  replace M_2 := cell_later hst12 M_2
  replace M_3 := cell_later hst12 M_3
  replace M_4 := cell_later hst12 M_4
  replace M_5 := cell_later hst12 M_5
  replace M_6 := cell_later hst12 M_6
  replace M_7 := cell_later hst12 M_7
  replace M_8 := cell_later hst12 M_8
  replace M_9 := cell_later hst12 M_9
  replace M_l := Nat.lt_of_lt_of_le M_l hst12.size
  replace O_0 := cell_later hst12 O_0
  replace O_1 := cell_later hst12 O_1
  replace O_2 := cell_later hst12 O_2
  replace O_3 := cell_later hst12 O_3
  replace O_4 := cell_later hst12 O_4
  replace O_5 := cell_later hst12 O_5
  replace O_6 := cell_later hst12 O_6
  replace O_7 := cell_later hst12 O_7
  replace O_8 := cell_later hst12 O_8
  replace O_9 := cell_later hst12 O_9
  replace O_l := Nat.lt_of_lt_of_le O_l hst12.size
  replace A_0 := cell_later hst12 A_0
  replace A_1 := cell_later hst12 A_1
  replace A_2 := cell_later hst12 A_2
  replace A_3 := cell_later hst12 A_3
  replace A_4 := cell_later hst12 A_4
  replace A_5 := cell_later hst12 A_5
  replace A_6 := cell_later hst12 A_6
  replace A_7 := cell_later hst12 A_7
  replace A_8 := cell_later hst12 A_8
  replace A_9 := cell_later hst12 A_9
  replace A_l := Nat.lt_of_lt_of_le A_l hst12.size
  replace B_0 := cell_later hst12 B_0
  replace B_1 := cell_later hst12 B_1
  replace B_2 := cell_later hst12 B_2
  replace B_3 := cell_later hst12 B_3
  replace B_4 := cell_later hst12 B_4
  replace B_5 := cell_later hst12 B_5
  replace B_6 := cell_later hst12 B_6
  replace B_7 := cell_later hst12 B_7
  replace B_8 := cell_later hst12 B_8
  replace B_9 := cell_later hst12 B_9
  replace B_l := Nat.lt_of_lt_of_le B_l hst12.size
  replace kr := kr.later hst12
  replace kb := kb.later hst12
  replace kK := kK.later hst12
  replace o5 := o5.later hst12
  replace o11 := o11.later hst12
  replace g3 := g3.later hst12
  replace k2 := k2.later hst12
  replace k3 := k3.later hst12
  replace hD9 := hD9.later hst12
  replace hE11 := hE11.later hst12
  clear hst12
  clear hc12 hb11
  go_wp2_with fail
  with_reducible refine (sameBytes_self bs a11 ba bn bn c11 bc _ H_hbn.out H_hbn.out (by omega) o11.cells.2 kb).mono ?_
  rintro e w13 ⟨rfl, hc13⟩
  have hb13 : Below w.heap.size w w13 := bchain (by repeat' (first | with_reducible exact hb12 | with_reducible refine Below.drew ?_ | with_reducible refine below_drewN ?_ _ | with_reducible refine Below.alloc ?_ (by have := hb12.size; first | (simp; done) | (simp; omega) | omega) _ | with_reducible refine Below.setCell ?_ (by first | (simp; done) | (simp; omega) | omega) _)) hc13
  have hst13 : Below w12.heap.size w12 w13 := bchain (by repeat' (first | with_reducible exact Below.refl _ _ | with_reducible refine Below.drew ?_ | with_reducible refine below_drewN ?_ _ | with_reducible refine Below.alloc ?_ (by first | (simp; done) | (simp; omega) | omega) _ | with_reducible refine Below.setCell ?_ (by first | (simp; done) | (simp; omega) | omega) _)) hc13
  replace M_0 := cell_later hst13 M_0
  replace M_1 := cell_later hst13 M_1
  replace M_2 := cell_later hst13 M_2
  replace M_3 := cell_later hst13 M_3
  replace M_4 := cell_later hst13 M_4
  replace M_5 := cell_later hst13 M_5
  replace M_6 := cell_later hst13 M_6
  replace M_7 := cell_later hst13 M_7
  replace M_8 := cell_later hst13 M_8
  replace M_9 := cell_later hst13 M_9
  replace M_l := Nat.lt_of_lt_of_le M_l hst13.size
  replace O_0 := cell_later hst13 O_0
  replace O_1 := cell_later hst13 O_1
  replace O_2 := cell_later hst13 O_2
  replace O_3 := cell_later hst13 O_3
  replace O_4 := cell_later hst13 O_4
  replace O_5 := cell_later hst13 O_5
  replace O_6 := cell_later hst13 O_6
  replace O_7 := cell_later hst13 O_7
  replace O_8 := cell_later hst13 O_8
  replace O_9 := cell_later hst13 O_9
  replace O_l := Nat.lt_of_lt_of_le O_l hst13.size
  replace A_0 := cell_later hst13 A_0
  replace A_1 := cell_later hst13 A_1
  replace A_2 := cell_later hst13 A_2
  replace A_3 := cell_later hst13 A_3
  replace A_4 := cell_later hst13 A_4
  replace A_5 := cell_later hst13 A_5
  replace A_6 := cell_later hst13 A_6
  replace A_7 := cell_later hst13 A_7
  replace A_8 := cell_later hst13 A_8
  replace A_9 := cell_later hst13 A_9
  replace A_l := Nat.lt_of_lt_of_le A_l hst13.size
  replace B_0 := cell_later hst13 B_0
  replace B_1 := cell_later hst13 B_1
  replace B_2 := cell_later hst13 B_2
  replace B_3 := cell_later hst13 B_3
  replace B_4 := cell_later hst13 B_4
  replace B_5 := cell_later hst13 B_5
  replace B_6 := cell_later hst13 B_6
  replace B_7 := cell_later hst13 B_7
  replace B_8 := cell_later hst13 B_8
  replace B_9 := cell_later hst13 B_9
  replace B_l := Nat.lt_of_lt_of_le B_l hst13.size
  replace kr := kr.later hst13
  replace kb := kb.later hst13
  replace kK := kK.later hst13
  replace o5 := o5.later hst13
  replace o11 := o11.later hst13
  replace g3 := g3.later hst13
  replace k2 := k2.later hst13
  replace k3 := k3.later hst13
  replace hD9 := hD9.later hst13
  replace hE11 := hE11.later hst13
  clear hst13
  clear hc13 hb12
  clear M_0 M_1 M_2 M_3 M_4 M_5 M_6 M_7 M_8 M_9 M_l
  clear kr
  clear kb
  clear kK
  go_wp2_with fail
  have own11 : RowU w13 w1.heap.size 5 a11 bn c11 := fun h => ⟨bs, H_hbn.out.symm, hb8', by rcases o11 with h' | ⟨h', _⟩; exact h'; omega⟩
  have own5 : RowU w13 w1.heap.size 5 a5 rn c5 := fun h => ⟨rs, H_hrn.out.symm, hr8, by rcases o5 with h' | ⟨h', _⟩; exact h'; omega⟩
  clear o5 o11
  have hG13 := World.grownBy.refl w13 (some G11)
  have zs := g3.le
  go_loopw [15] (fun q wr => ∃ (i : Nat), i ≤ bn ∧ q = .int .i64 i ∧ Below w.heap.size w wr ∧ w13.grownBy wr (some G11) ∧ RowU wr w1.heap.size 5 a11 bn c11) (fun q _ => bn - (intOf q).toNat)
  case atStart => exact ⟨0, by omega, rfl, hb13, hG13, own11⟩
  case round =>
    clear hG13 own11 hb13
    obtain ⟨i, hi, rfl, hbw, hg, ho⟩ := hrel
    by_cases hlt : i < bn
    · obtain ⟨ys, hyl, hy8, hoy⟩ := ho (by omega)
      obtain rfl := H_h11a.out (by omega)
      obtain ⟨b, hbe, _, hbl, hcell, hfr⟩ := hoy.at (by omega)
      cases hbe
      have cy : wr.cell? ⟨G11, i, none⟩ = some (.int .u8 (ys[i]?.getD 0)) := hcell i _ (by simp [List.getElem?_eq_getElem (show i < ys.length by omega)])
      have fy := hfr i
      have hy := hy8.at i
      obtain ⟨y, hyd⟩ : ∃ y, y = ys[i]?.getD 0 := ⟨_, rfl⟩
      rw [← hyd] at cy hy
      obtain ⟨hya, hyb⟩ := hy
      have hiI : (i : Int) < (bn : Int) := by omega
      have H_hyd := hid hyd
      have H_hyl := hid hyl
      clear hyd hyl
      clear ho hcell hfr
      go_wp2_with fail
      go_roundw
      case rel =>
        refine ⟨i + 1, by omega, by go_num, hbw.setCell (by simp; omega) _, gb_setCell hg i _, fun _ => ⟨ys.set i ((y + 1) % 256), by rw [List.length_set]; exact H_hyl.out, hy8.set i _ (by omega), ?_⟩⟩
        have := hoy.setAt hlt (.int .u8 ((y + 1) % 256))
        rwa [← List.map_set] at this
      case measure => simp [intOf]; omega
    · have hge : (bn : Int) ≤ (i : Int) := by omega
      obtain ⟨w14, hw14⟩ : ∃ w14, w14 = wr := ⟨wr, rfl⟩
      subst hw14
      have hne12 : b12 ≠ G11 := fun e => h11d e.symm
      replace O_8 := (gb_cell hg O_l hne12 8).trans O_8
      replace A_0 := (gb_cell hg A_l (by omega) 0).trans A_0
      replace A_1 := (gb_cell hg A_l (by omega) 1).trans A_1
      replace A_2 := (gb_cell hg A_l (by omega) 2).trans A_2
      replace A_3 := (gb_cell hg A_l (by omega) 3).trans A_3
      replace A_4 := (gb_cell hg A_l (by omega) 4).trans A_4
      replace A_5 := (gb_cell hg A_l (by omega) 5).trans A_5
      replace A_6 := (gb_cell hg A_l (by omega) 6).trans A_6
      replace A_7 := (gb_cell hg A_l (by omega) 7).trans A_7
      replace A_8 := (gb_cell hg A_l (by omega) 8).trans A_8
      replace A_9 := (gb_cell hg A_l (by omega) 9).trans A_9
      replace B_0 := (gb_cell hg B_l (by omega) 0).trans B_0
      replace B_1 := (gb_cell hg B_l (by omega) 1).trans B_1
      replace B_2 := (gb_cell hg B_l (by omega) 2).trans B_2
      replace B_3 := (gb_cell hg B_l (by omega) 3).trans B_3
      replace B_4 := (gb_cell hg B_l (by omega) 4).trans B_4
      replace B_5 := (gb_cell hg B_l (by omega) 5).trans B_5
      replace B_6 := (gb_cell hg B_l (by omega) 6).trans B_6
      replace B_7 := (gb_cell hg B_l (by omega) 7).trans B_7
      replace B_8 := (gb_cell hg B_l (by omega) 8).trans B_8
      replace B_9 := (gb_cell hg B_l (by omega) 9).trans B_9
      have k2 := gb_row k2 hg (b := G11) fun hx ad e => by have := H_hf2.out hx ad e; omega
      have k3 := gb_row k3 hg (b := G11) fun hx ad e => by have := H_hf3.out hx ad e; omega
      have hD9 := gb_blk hg hD9 (by omega)
      have hE11 := gb_blk hg hE11 (by omega)
      have own5 : RowU w14 w1.heap.size 5 a5 rn c5 := fun h => by
        obtain ⟨ys, h1, h2, h3⟩ := own5 h
        refine ⟨ys, h1, h2, gb_own hg h3 ?_⟩
        rw [(H_h5a.out h).1]
        intro e
        exact H_hGG.out h (Option.some.inj e)
      go_wp2_with fail
      have hgt := World.grownBy.refl w14 (some G5)
      go_loopw [16] (fun q wr => ∃ (i : Nat), i ≤ rn ∧ q = .int .i64 i ∧ Below w.heap.size w wr ∧ w14.grownBy wr (some G5) ∧ RowU wr w1.heap.size 5 a5 rn c5) (fun q _ => rn - (intOf q).toNat)
      case atStart => exact ⟨0, by omega, rfl, hbw, hgt, own5⟩
      case round =>
        have zwr := hg.size
        clear hgt own5 hbw ho
        obtain ⟨i, hi, rfl, hbt, hgt, ho⟩ := hrel
        have P_8 := (gb_cell hgt (Nat.lt_of_lt_of_le O_l zwr) (fun e => h5d e.symm) 8).trans O_8
        by_cases hlt : i < rn
        · obtain ⟨ys, hyl, hy8, hoy⟩ := ho (by omega)
          obtain rfl := (H_h5a.out (by omega)).1
          obtain ⟨b, hbe, _, hbl, hcell, hfr⟩ := hoy.at (by omega)
          cases hbe
          have cy : wr.cell? ⟨G5, i, none⟩ = some (.int .u8 (ys[i]?.getD 0)) := hcell i _ (by simp [List.getElem?_eq_getElem (show i < ys.length by omega)])
          have fy := hfr i
          have hy := hy8.at i
          obtain ⟨y, hyd⟩ : ∃ y, y = ys[i]?.getD 0 := ⟨_, rfl⟩
          rw [← hyd] at cy hy
          obtain ⟨hya, hyb⟩ := hy
          have hiI : (i : Int) < (rn : Int) := by omega
          have H_hyd := hid hyd
          have H_hyl := hid hyl
          clear hyd hyl
          clear ho hcell hfr
          go_wp2_with fail
          go_roundw
          case rel =>
            refine ⟨i + 1, by omega, by go_num, hbt.setCell (by simp; omega) _, gb_setCell hgt i _, fun _ => ⟨ys.set i ((y + 1) % 256), by rw [List.length_set]; exact H_hyl.out, hy8.set i _ (by omega), ?_⟩⟩
            have := hoy.setAt hlt (.int .u8 ((y + 1) % 256))
            rwa [← List.map_set] at this
          case measure => simp [intOf]; omega
        · have hge : (rn : Int) ≤ (i : Int) := by omega
          have A_lt := Nat.lt_of_lt_of_le A_l zwr
          have B_lt := Nat.lt_of_lt_of_le B_l zwr
          replace A_0 := (gb_cell hgt A_lt (by omega) 0).trans A_0
          replace A_1 := (gb_cell hgt A_lt (by omega) 1).trans A_1
          replace A_2 := (gb_cell hgt A_lt (by omega) 2).trans A_2
          replace A_3 := (gb_cell hgt A_lt (by omega) 3).trans A_3
          replace A_4 := (gb_cell hgt A_lt (by omega) 4).trans A_4
          replace A_5 := (gb_cell hgt A_lt (by omega) 5).trans A_5
          replace A_6 := (gb_cell hgt A_lt (by omega) 6).trans A_6
          replace A_7 := (gb_cell hgt A_lt (by omega) 7).trans A_7
          replace A_8 := (gb_cell hgt A_lt (by omega) 8).trans A_8
          replace A_9 := (gb_cell hgt A_lt (by omega) 9).trans A_9
          replace B_0 := (gb_cell hgt B_lt (by omega) 0).trans B_0
          replace B_1 := (gb_cell hgt B_lt (by omega) 1).trans B_1
          replace B_2 := (gb_cell hgt B_lt (by omega) 2).trans B_2
          replace B_3 := (gb_cell hgt B_lt (by omega) 3).trans B_3
          replace B_4 := (gb_cell hgt B_lt (by omega) 4).trans B_4
          replace B_5 := (gb_cell hgt B_lt (by omega) 5).trans B_5
          replace B_6 := (gb_cell hgt B_lt (by omega) 6).trans B_6
          replace B_7 := (gb_cell hgt B_lt (by omega) 7).trans B_7
          replace B_8 := (gb_cell hgt B_lt (by omega) 8).trans B_8
          replace B_9 := (gb_cell hgt B_lt (by omega) 9).trans B_9
          have k2 := gb_row k2 hgt (b := G5) fun hx ad e => by have := H_hf2.out hx ad e; omega
          have k3 := gb_row k3 hgt (b := G5) fun hx ad e => by have := H_hf3.out hx ad e; omega
          have hD9 := gb_blk hgt hD9 (by omega)
          have hE11 := gb_blk hgt hE11 (by omega)
          replace A_l := Nat.lt_of_lt_of_le A_lt hgt.size
          replace B_l := Nat.lt_of_lt_of_le B_lt hgt.size
          have hml : m2 ≤ 140737488355328 := by have h1 := H_hal.out; have h2 : m2 = ar.length := H_hm2.out; omega
          have heq : ∀ w, (Op.equalIn 10000 33 (.agg dv.toArray) (.agg dv.toArray)).run Tryd.prog w = .ok true w := fun w => by
            rw [H_hdv.out, eq_ids dl dl H_hdl.out H_hdl.out]; simp
          clear ho hgt hg O_8
          go_wp2_with fail
          with_reducible refine (start_any _).mono ?_
          rintro e w21 ⟨rfl, hc21⟩
          have hb21 : Below w.heap.size w w21 := bchain (by repeat' (first | with_reducible exact hbt | with_reducible refine Below.drew ?_ | with_reducible refine below_drewN ?_ _ | with_reducible refine Below.alloc ?_ (by have := hbt.size; first | (simp; done) | (simp; omega) | omega) _ | with_reducible refine Below.setCell ?_ (by first | (simp; done) | (simp; omega) | omega) _)) hc21
          have hst21 : Below wr.heap.size wr w21 := bchain (by repeat' (first | with_reducible exact Below.refl _ _ | with_reducible refine Below.drew ?_ | with_reducible refine below_drewN ?_ _ | with_reducible refine Below.alloc ?_ (by first | (simp; done) | (simp; omega) | omega) _ | with_reducible refine Below.setCell ?_ (by first | (simp; done) | (simp; omega) | omega) _)) hc21
          replace A_0 := cell_later hst21 A_0
          replace A_1 := cell_later hst21 A_1
          replace A_2 := cell_later hst21 A_2
          replace A_3 := cell_later hst21 A_3
          replace A_4 := cell_later hst21 A_4
          replace A_5 := cell_later hst21 A_5
          replace A_6 := cell_later hst21 A_6
          replace A_7 := cell_later hst21 A_7
          replace A_8 := cell_later hst21 A_8
          replace A_9 := cell_later hst21 A_9
          replace A_l := Nat.lt_of_lt_of_le A_l hst21.size
          replace B_0 := cell_later hst21 B_0
          replace B_1 := cell_later hst21 B_1
          replace B_2 := cell_later hst21 B_2
          replace B_3 := cell_later hst21 B_3
          replace B_4 := cell_later hst21 B_4
          replace B_5 := cell_later hst21 B_5
          replace B_6 := cell_later hst21 B_6
          replace B_7 := cell_later hst21 B_7
          replace B_8 := cell_later hst21 B_8
          replace B_9 := cell_later hst21 B_9
          replace B_l := Nat.lt_of_lt_of_le B_l hst21.size
          replace k2 := k2.later hst21
          replace k3 := k3.later hst21
          replace hD9 := hD9.later hst21
          replace hE11 := hE11.later hst21
          clear hst21
          clear hc21 hbt
          go_wp2_with fail
          with_reducible refine (rstart_any _).mono ?_
          rintro e w22 ⟨rfl, hc22⟩
          have hb22 : Below w.heap.size w w22 := bchain (by repeat' (first | with_reducible exact hb21 | with_reducible refine Below.drew ?_ | with_reducible refine below_drewN ?_ _ | with_reducible refine Below.alloc ?_ (by have := hb21.size; first | (simp; done) | (simp; omega) | omega) _ | with_reducible refine Below.setCell ?_ (by first | (simp; done) | (simp; omega) | omega) _)) hc22
          have hst22 : Below w21.heap.size w21 w22 := bchain (by repeat' (first | with_reducible exact Below.refl _ _ | with_reducible refine Below.drew ?_ | with_reducible refine below_drewN ?_ _ | with_reducible refine Below.alloc ?_ (by first | (simp; done) | (simp; omega) | omega) _ | with_reducible refine Below.setCell ?_ (by first | (simp; done) | (simp; omega) | omega) _)) hc22
          replace A_0 := cell_later hst22 A_0
          replace A_1 := cell_later hst22 A_1
          replace A_2 := cell_later hst22 A_2
          replace A_3 := cell_later hst22 A_3
          replace A_4 := cell_later hst22 A_4
          replace A_5 := cell_later hst22 A_5
          replace A_6 := cell_later hst22 A_6
          replace A_7 := cell_later hst22 A_7
          replace A_8 := cell_later hst22 A_8
          replace A_9 := cell_later hst22 A_9
          replace A_l := Nat.lt_of_lt_of_le A_l hst22.size
          replace B_0 := cell_later hst22 B_0
          replace B_1 := cell_later hst22 B_1
          replace B_2 := cell_later hst22 B_2
          replace B_3 := cell_later hst22 B_3
          replace B_4 := cell_later hst22 B_4
          replace B_5 := cell_later hst22 B_5
          replace B_6 := cell_later hst22 B_6
          replace B_7 := cell_later hst22 B_7
          replace B_8 := cell_later hst22 B_8
          replace B_9 := cell_later hst22 B_9
          replace B_l := Nat.lt_of_lt_of_le B_l hst22.size
          replace k2 := k2.later hst22
          replace k3 := k3.later hst22
          replace hD9 := hD9.later hst22
          replace hE11 := hE11.later hst22
          clear hst22
          clear hc22 hb21
          go_wp2_with fail
          with_reducible refine (same_self v0c v0c 0 [] none none 0 0 0 0 _ rfl rfl rfl (by omega) (nilCells _ _ _) (nilCells _ _ _)).mono ?_
          rintro e w23 ⟨rfl, hc23⟩
          have hb23 : Below w.heap.size w w23 := bchain (by repeat' (first | with_reducible exact hb22 | with_reducible refine Below.drew ?_ | with_reducible refine below_drewN ?_ _ | with_reducible refine Below.alloc ?_ (by have := hb22.size; first | (simp; done) | (simp; omega) | omega) _ | with_reducible refine Below.setCell ?_ (by first | (simp; done) | (simp; omega) | omega) _)) hc23
          have hst23 : Below w22.heap.size w22 w23 := bchain (by repeat' (first | with_reducible exact Below.refl _ _ | with_reducible refine Below.drew ?_ | with_reducible refine below_drewN ?_ _ | with_reducible refine Below.alloc ?_ (by first | (simp; done) | (simp; omega) | omega) _ | with_reducible refine Below.setCell ?_ (by first | (simp; done) | (simp; omega) | omega) _)) hc23
          replace A_0 := cell_later hst23 A_0
          replace A_1 := cell_later hst23 A_1
          replace A_2 := cell_later hst23 A_2
          replace A_3 := cell_later hst23 A_3
          replace A_4 := cell_later hst23 A_4
          replace A_5 := cell_later hst23 A_5
          replace A_6 := cell_later hst23 A_6
          replace A_7 := cell_later hst23 A_7
          replace A_8 := cell_later hst23 A_8
          replace A_9 := cell_later hst23 A_9
          replace A_l := Nat.lt_of_lt_of_le A_l hst23.size
          replace B_0 := cell_later hst23 B_0
          replace B_1 := cell_later hst23 B_1
          replace B_2 := cell_later hst23 B_2
          replace B_3 := cell_later hst23 B_3
          replace B_4 := cell_later hst23 B_4
          replace B_5 := cell_later hst23 B_5
          replace B_6 := cell_later hst23 B_6
          replace B_7 := cell_later hst23 B_7
          replace B_8 := cell_later hst23 B_8
          replace B_9 := cell_later hst23 B_9
          replace B_l := Nat.lt_of_lt_of_le B_l hst23.size
          replace k2 := k2.later hst23
          replace k3 := k3.later hst23
          replace hD9 := hD9.later hst23
          replace hE11 := hE11.later hst23
          clear hst23
          clear hc23 hb22
          go_wp2_with fail
          with_reducible refine (same_self ua ub aN ar a2 a3 m2 m3 c2 c3 _ (H_hua.out.trans H_hub.out.symm) H_hm2.out H_hm3.out hml k2 k3).mono ?_
          rintro e w24 ⟨rfl, hc24⟩
          have hb24 : Below w.heap.size w w24 := bchain (by repeat' (first | with_reducible exact hb23 | with_reducible refine Below.drew ?_ | with_reducible refine below_drewN ?_ _ | with_reducible refine Below.alloc ?_ (by have := hb23.size; first | (simp; done) | (simp; omega) | omega) _ | with_reducible refine Below.setCell ?_ (by first | (simp; done) | (simp; omega) | omega) _)) hc24
          have hst24 : Below w23.heap.size w23 w24 := bchain (by repeat' (first | with_reducible exact Below.refl _ _ | with_reducible refine Below.drew ?_ | with_reducible refine below_drewN ?_ _ | with_reducible refine Below.alloc ?_ (by first | (simp; done) | (simp; omega) | omega) _ | with_reducible refine Below.setCell ?_ (by first | (simp; done) | (simp; omega) | omega) _)) hc24
          replace A_0 := cell_later hst24 A_0
          replace A_1 := cell_later hst24 A_1
          replace A_2 := cell_later hst24 A_2
          replace A_3 := cell_later hst24 A_3
          replace A_4 := cell_later hst24 A_4
          replace A_5 := cell_later hst24 A_5
          replace A_6 := cell_later hst24 A_6
          replace A_7 := cell_later hst24 A_7
          replace A_8 := cell_later hst24 A_8
          replace A_9 := cell_later hst24 A_9
          replace A_l := Nat.lt_of_lt_of_le A_l hst24.size
          replace B_0 := cell_later hst24 B_0
          replace B_1 := cell_later hst24 B_1
          replace B_2 := cell_later hst24 B_2
          replace B_3 := cell_later hst24 B_3
          replace B_4 := cell_later hst24 B_4
          replace B_5 := cell_later hst24 B_5
          replace B_6 := cell_later hst24 B_6
          replace B_7 := cell_later hst24 B_7
          replace B_8 := cell_later hst24 B_8
          replace B_9 := cell_later hst24 B_9
          replace B_l := Nat.lt_of_lt_of_le B_l hst24.size
          replace k2 := k2.later hst24
          replace k3 := k3.later hst24
          replace hD9 := hD9.later hst24
          replace hE11 := hE11.later hst24
          clear hst24
          clear hc24 hb23
          go_wp2_with (first | (refine wpList_load_blkG (by rfl) 33 _ rfl w8.heap.size (by rfl) 33 dv _ hD9 Tryd.underlying33 rfl H_hdi.out ?_) | (refine wpList_load_blkG (by rfl) 33 _ rfl w10.heap.size (by rfl) 33 dv _ hE11 Tryd.underlying33 rfl H_hdi.out ?_))
          go_ret
          exact ⟨rfl, (by repeat' (first | with_reducible exact hb24 | with_reducible refine Below.drew ?_ | with_reducible refine below_drewN ?_ _ | with_reducible refine Below.alloc ?_ (by have := hb24.size; first | (simp; done) | (simp; omega) | omega) _ | with_reducible refine Below.setCell ?_ (by first | (simp; done) | (simp; omega) | omega) _))⟩

set_option maxRecDepth 100000 in
set_option maxHeartbeats 1000000 in
/-- DigestMills returns true. -/
theorem mills_walk (v : V8) (rs : List Int) (N : Int) (ra : Option Addr) (rc : Nat) (bs : List Int) (ba : Option Addr) (bc : Nat) (w : World) (hM : MillIn w v rs N ra) (hB : BytesIn w ba bs)
    (hK : CellsAt w (some ⟨0, 0, none⟩) (kcs.map (Value.int .u32))) (hw0 : 0 < w.heap.size) :
    Calls Tryd.prog 3 #[.agg #[.int .u32 v.a, .int .u32 v.b, .int .u32 v.c, .int .u32 v.d, .int .u32 v.e, .int .u32 v.f, .int .u32 v.g, .int .u32 v.z, .slice ra rs.length rc, .int .i64 N], .slice ba bs.length bc] w fun e w' =>
      e = .returned (.bool true) ∧ Below w.heap.size w w' := by
  obtain ⟨hv, hr, hr8, hrl⟩ := hM
  obtain ⟨hb, hb8, hbl⟩ := hB
  obtain ⟨rn, hrn⟩ : ∃ rn, rn = rs.length := ⟨_, rfl⟩
  obtain ⟨bn, hbn⟩ : ∃ bn, bn = bs.length := ⟨_, rfl⟩
  rw [← hrn, ← hbn]
  by_cases h1 : bn ≤ 1500
  · by_cases h2 : rn ≤ 200
    · exact mills_go v rs bs N ra ba rn rc bn bc w hv hrn hbn hr hb hr8 hb8 hK hw0 h1 h2
    · have h1I : (bn : Int) ≤ 1500 := by omega
      have h2I : (200 : Int) < (rn : Int) := by omega
      clear hrn hbn
      go_enter Tryd.func3, Tryd.ntmps3
      have hb0 := Below.refl w.heap.size w
      go_wp2_with fail
      go_ret
      exact ⟨rfl, by repeat' (first | with_reducible exact hb0 | with_reducible refine Below.drew ?_ | with_reducible refine below_drewN ?_ _ | with_reducible refine Below.alloc ?_ (by have := hb0.size; first | (simp; done) | (simp; omega) | omega) _ | with_reducible refine Below.setCell ?_ (by first | (simp; done) | (simp; omega) | omega) _)⟩
  · have h1I : (1500 : Int) < (bn : Int) := by omega
    clear hrn hbn
    go_enter Tryd.func3, Tryd.ntmps3
    have hb0 := Below.refl w.heap.size w
    go_wp2_with fail
    go_ret
    exact ⟨rfl, by repeat' (first | with_reducible exact hb0 | with_reducible refine Below.drew ?_ | with_reducible refine below_drewN ?_ _ | with_reducible refine Below.alloc ?_ (by have := hb0.size; first | (simp; done) | (simp; omega) | omega) _ | with_reducible refine Below.setCell ?_ (by first | (simp; done) | (simp; omega) | omega) _)⟩

end Go.Proofs.YtlilodfddojlhaaDoor
