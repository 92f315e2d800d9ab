/- More operations in a region that draws: a whole block stored, a slice made. -/
import Derived.Test.YthdldmkeoglflaaDoorRegSpec
import Derived.Test.YthdldmkeoglflaaDoorBlk
import Derived.Laws.MakeOwn
namespace Go.Proofs.YthdldmkeoglflaaDoor
set_option maxRecDepth 100000
open Go.RowKit Go.Sort

section
variable {P : Program}
theorem gives_store_blk {o : Oper} {a : Act} {w : World} {R : Value → World → Prop} (ty : TypeId) (x y : Operand) (ho : o.op = .store ty x y) (B : Nat) (hx : a.eval x = .pointer (some ⟨B, 0, none⟩)) (t : TypeId) (cs vs : List Value) (hy : a.eval y = .agg vs.toArray)
    (h : Blk w B t cs) (hl : vs.length = cs.length) (hi : (P.info? ty).map (·.size) = some vs.length) (h1 : ∀ v ∈ vs, v.oneCell' = true) (hR : Blk (w.setCells B 0 vs) B t vs → R undef (w.setCells B 0 vs)) : Oper.gives P o a w R := by
  have ht : w.there B 0 vs.toArray.size := by have := h.there; rw [← hl] at this; simpa using this
  have hr := run_storeAt_mid (P := P) w B 0 ty vs.toArray ht (by simpa using hi) (all_oneCell_toArray h1)
  unfold Oper.gives
  simp [execOp, ho, hx, hy, hr]
  exact hR (h.setAll hl)
/-- A load of a whole block in a quiet walk. -/
theorem wpQuiet_load_blk {ops : Array Oper} {Q : Act → Prop} {a : Act} {o : Oper} {rest : List Oper} {w0 : World} (hw : Region.wanted o (yielded ops a.tmps) = true) (ty : TypeId) (x : Operand) (ho : o.op = .load ty x)
    (B : Nat) (hx : a.eval x = .pointer (some ⟨B, 0, none⟩)) (t : TypeId) (cs : List Value) (d : TypeDesc) (h : Blk w0 B t cs)
    (hu : P.underlying ty = some d) (hd : d.isRow = true) (hi : (P.info? ty).map (·.size) = some cs.length)
    (hK : wpQuiet P ops (fun w' => ∃ p : Regrown, w' = wOn w0 p) Q rest (a.put o.dst (.agg cs.toArray))) : wpQuiet P ops (fun w' => ∃ p : Regrown, w' = wOn w0 p) Q (o :: rest) a :=
  wpQuiet_step fun K hK' => by
    rw [if_pos hw]
    refine ⟨.agg cs.toArray, fun w ⟨p, hp⟩ => ?_, hK' _ hK⟩
    subst hp
    have hr := run_loadAt_mid (P := P) (wOn w0 p) B 0 ty cs d (h.later (below_later w0 p)).rangeAt hu hd hi
    unfold Oper.quietAt
    simp [execOp, ho, hx, hr, Oper.quietUpon]
theorem madeCells_one (z : Value) (n : Nat) : madeCells #[z] n = (List.replicate n z).toArray := by
  apply Array.ext
  · simp [madeCells]
  · intro i h1 h2
    simp [madeCells, Nat.mod_one]
theorem gives_make {o : Oper} {a : Act} {w : World} {R : Value → World → Prop} (t : TypeId) (x y : Operand) (ho : o.op = .makeSlice t x y) (n c : Nat) (hx : a.eval x = .int .i64 n) (hy : a.eval y = .int .i64 c)
    (e : TypeId) (i : TypeInfo) (z : Value) (ht : P.underlying t = some (.slice e)) (hi : P.info? e = some i) (hz : i.zero = some z) (hs : i.size = 1) (hb : i.bytes * c ≤ 281474976710656) (hn : n ≤ c) (hc : c ≤ 9223372036854775807) (hzc : z.cells = #[z])
    (hR : ∀ w', w' = w.alloc (.cells (List.replicate c z).toArray e) → R (.slice (some ⟨w.heap.size, 0, none⟩) n c) w') : Oper.gives P o a w R := by
  have hb' : (i.bytes : Int) * (c : Int) ≤ 281474976710656 := by
    have h : ((i.bytes * c : Nat) : Int) ≤ 281474976710656 := by omega
    rwa [Int.natCast_mul] at h
  have hr := run_make (P := P) w t e i z ht hi hz .i64 .i64 n c (by omega) (by omega) hb' (by omega)
  simp only [Int.toNat_natCast] at hr
  rw [hs, Nat.mul_one, hzc, madeCells_one] at hr
  unfold Oper.gives
  simp [execOp, ho, hx, hy, hr]
  exact hR _ (by simp)
end

end Go.Proofs.YthdldmkeoglflaaDoor
