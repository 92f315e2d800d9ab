/- The law SchedNames (under way: holes inside). -/
import Derived.Test.YtoelndaeemlefaaSchedPartsH
import Derived.Test.YtoelndaeemlefaaRegMore
namespace Go.Proofs.Ytoelndaeemlefaa
set_option linter.unusedSimpArgs false
set_option linter.unusedVariables false
set_option linter.unnecessarySimpa false
open Go.RowKit

def badL : Nat → List Int
  | 0 => [] | 1 => List.replicate 13 0 | 2 => [1] | 3 => [-1] | 4 => [61] | 5 => [1] | 6 => [1] | _ => [1, 1]
def badA : Nat → List Int
  | 0 => [] | 1 => List.replicate 13 0 | 2 => [] | 3 => [-1] | 4 => [-1] | 5 => [0] | 6 => [-2] | _ => [-1, 1]
theorem bad_err : ∀ t, t < 8 → tErr (badL t) (badA t) = 8 := by decide +kernel
/-- The row of bad tasks. -/
def BadRow (w : World) (B : Nat) : Prop := ∀ t, t < 8 → ∃ la lc aa ac, w.cell? ⟨B, t * 2, none⟩ = some (.slice la (badL t).length lc) ∧ w.cell? ⟨B, t * 2 + 1, none⟩ = some (.slice aa (badA t).length ac) ∧ CellsAt w la ((badL t).map (Value.int .i64)) ∧ CellsAt w aa ((badA t).map (Value.int .i64))
theorem BadRow.later {w w' : World} {B : Nat} (h : BadRow w B) (hb : Below w.heap.size w w') : BadRow w' B := fun t ht => by
  obtain ⟨la, lc, aa, ac, h1, h2, h3, h4⟩ := h t ht
  exact ⟨la, lc, aa, ac, cell_later hb h1, cell_later hb h2, h3.later hb, h4.later hb⟩
theorem mk300 (w : World) : (Instr.makeSlice 22 (.int .i64 300) (.int .i64 300)).run Try.prog w = .ok (.slice (some ⟨w.heap.size, 0, none⟩) 300 300) (w.alloc (.cells (madeCells #[.int .i64 0] 300) 3)) := by
  have := run_make_row' (P := Try.prog) 22 3 (.int .i64 0) 8 Try.underlying22 info_i64 rfl .i64 .i64 300 (by omega) (by omega) w
  simpa using this
theorem pick_r (l a : List Int) (i : Int) (xs ys ds : List Int) (er : Int) (n m p q : Nat) (la aa : Option Addr) (lc ac : Nat) (w : World) (hn : n = l.length) (hm : m = a.length) (hp : p = xs.length) (hq : q = ys.length) (hl : CellsAt w la (l.map (Value.int .i64))) (ha : CellsAt w aa (a.map (Value.int .i64))) (hml : l.length ≤ maxLen) (hr : tkRun l a [i] = ((xs, ys), ds, er)) :
    Calls Try.prog 15 #[.agg #[.slice la n lc, .slice aa m ac], .int .i64 i] w fun e w' =>
      (∃ b1 c1 b2 c2, e = .returned (.tuple #[.agg #[.slice b1 p c1, .slice b2 q c2], .bool (decide (0 < ds.length)), .int .i64 er]) ∧ CellsAt w' b1 (xs.map (Value.int .i64)) ∧ CellsAt w' b2 (ys.map (Value.int .i64))) ∧ Below w.heap.size w w' := by
  subst hn hm hp hq
  refine (pick_any l a i la aa lc ac w hl ha hml).mono fun e w' ⟨⟨b1, c1, b2, c2, h1, h2, h3⟩, h4⟩ => ?_
  rw [hr] at h1 h2 h3
  exact ⟨⟨b1, c1, b2, c2, h1, h2, h3⟩, h4⟩

structure Box (p : Prop) : Prop where
  out : p
theorem row_cells (w : World) (cs : List Value) (e : TypeId) (fr : Nat × Nat) (H : Nat) (hH : w.heap.size = H) (a : Array Value) (ha : a = cs.toArray) : CellsAt (w.alloc (.cells a e fr)) (some ⟨H, 0, none⟩) cs := by
  subst hH; subst ha
  refine .inr ⟨_, _, rfl, fun j u hj => ?_⟩
  have hh : (w.alloc (.cells cs.toArray e fr)).heap[w.heap.size]? = some (.cells cs.toArray e fr) := heap_alloc_new w _
  rw [cell_of_row _ _ _ _ _ _ hh, Nat.zero_add]
  simpa using hj
theorem gives_append_full {o : Oper} {a : Act} {w : World} (s x : Operand) (t : TypeId) (ho : o.op = .call { callee := .builtin .append, args := #[s, x], argTypes := #[t, t] })
    (e : TypeId) (i : TypeInfo) (z : Value) (size bytes : Nat) (ht : Try.prog.underlying t = some (.slice e)) (hi : Try.prog.info? e = some i) (hz : i.zero = some z)
    (hsize : i.size = size) (hby : i.bytes = bytes)
    (b0 b1 n c m k : Nat) (xs news : List Value) (hs : a.eval s = .slice (some ⟨b0, 0, none⟩) n c) (hx : a.eval x = .slice (some ⟨b1, 0, none⟩) m k) (hk : CellsAt w (some ⟨b0, 0, none⟩) xs) (hxl : xs.length = n * size) (hn : CellsAt w (some ⟨b1, 0, none⟩) news) (hl : news.length = m * size)
    (hg : c < n + m) (h63 : n + m ≤ maxLen) (hb : (n + m) * bytes ≤ 140737488355328) (N : Nat) (hN : n + m = N) :
    Oper.gives Try.prog o a w (fun r w' => Below w.heap.size w w' ∧ VRow N (xs ++ news) r w') := by
  subst hN hsize hby
  have hr := run_append_grow (P := Try.prog) w t o.type e i z ht hi hz ⟨b0, 0, none⟩ n c xs hxl (cellsAt_news hk) ⟨b1, 0, none⟩ m k news hl (cellsAt_news hn) hg (by unfold maxLen at h63; omega) (growslice_fits hg hb)
  refine gives_append s x t t ho _ _ hs hx ⟨_, _, hr, (Below.drew (Below.refl _ _)).alloc (Nat.le_refl _) _, _, _, rfl, .inr ⟨w.heap.size, 0, rfl, fun j u hj => ?_⟩⟩
  have hj1 := (List.getElem?_eq_some_iff.1 hj).1
  have hh := heap_alloc_new w.drew (Obj.cells (xs.toArray ++ news.toArray ++ Builtin.zeroCells z.cells (grownCap w (n + m) c e - (n + m))) e)
  rw [show w.heap.size = w.drew.heap.size from rfl, cell_of_row _ _ _ _ _ _ hh, Nat.zero_add, Array.getElem?_append_left (by simpa using hj1)]
  simpa using hj
/-- A slice at a known block. -/
def VAt (n : Nat) (cs : List Value) : Value → World → Prop := fun v w => ∃ b, v = .slice (some ⟨b, 0, none⟩) n n ∧ CellsAt w (some ⟨b, 0, none⟩) cs
theorem VAt.last {n : Nat} {cs : List Value} (v : Value) (w w' : World) (h : VAt n cs v w) (hb : Below w.heap.size w w') : VAt n cs v w' :=
  let ⟨b, h1, h2⟩ := h
  ⟨b, h1, h2.later hb⟩
def VBlk (base : Nat) (t : TypeId) (cs : List Value) : Value → World → Prop := fun v w => ∃ b, v = .pointer (some ⟨b, 0, none⟩) ∧ base ≤ b ∧ Blk w b t cs
theorem VBlk.last {base : Nat} {t : TypeId} {cs : List Value} (v : Value) (w w' : World) (h : VBlk base t cs v w) (hb : Below w.heap.size w w') : VBlk base t cs v w' :=
  let ⟨b, h1, h2, h3⟩ := h
  ⟨b, h1, h2, h3.later hb⟩
def VAny : Value → World → Prop := fun _ _ => True
theorem VAny.last (v : Value) (w w' : World) (_ : VAny v w) (_ : Below w.heap.size w w') : VAny v w' := trivial
/-- No tasks, and an error. -/
def VErr2 (n : Int) : Value → World → Prop := fun v _ => ∃ a c b d, v = .tuple #[.agg #[.slice a 0 c, .slice b 0 d], .int .i64 n]
theorem VErr2.last {n : Int} (v : Value) (w w' : World) (h : VErr2 n v w) (_ : Below w.heap.size w w') : VErr2 n v w' := h
def VErr3 (n : Int) : Value → World → Prop := fun v _ => ∃ a c b d x y, v = .tuple #[.agg #[.slice a 0 c, .slice b 0 d], .slice x 0 y, .int .i64 n]
theorem VErr3.last {n : Int} (v : Value) (w w' : World) (h : VErr3 n v w) (_ : Below w.heap.size w w') : VErr3 n v w' := h
/-- The given tasks. -/
def VGiven : Value → World → Prop := fun v w => ∃ a c b d, v = .agg #[.slice a 3 c, .slice b 3 d] ∧ CellsAt w a (([2, 1, 1] : List Int).map (Value.int .i64)) ∧ CellsAt w b (([-1, -1, 0] : List Int).map (Value.int .i64))
theorem VGiven.last (v : Value) (w w' : World) (h : VGiven v w) (hb : Below w.heap.size w w') : VGiven v w' :=
  let ⟨a, c, b, d, h1, h2, h3⟩ := h
  ⟨a, c, b, d, h1, h2.later hb, h3.later hb⟩
theorem infoT : (Try.prog.info? 24).map (·.size) = some 2 := by kernel_rfl
theorem bad_new {l a : List Int} (h : tErr l a = 8) : tkNew l a = (([], []), 8) := by unfold tkNew; rw [h]; rfl
theorem bad_runs {l a : List Int} (h : tErr l a = 8) : tkRuns l a = ([], 8) := by unfold tkRuns; rw [h]; rfl
theorem bad_rounds {l a : List Int} (n : Int) (h : tErr l a = 8) : tkRounds l a n = ([], 8) := by unfold tkRounds; rw [h]; rfl
theorem bad_run {l a : List Int} (ps : List Int) (h : tErr l a = 8) : tkRun l a ps = (([], []), [], 8) := by
  have h1 : pkErr l a ps = 8 := by unfold pkErr; rw [h]; rfl
  unfold tkRun; rw [h1]; rfl
theorem new_r (l a xs ys : List Int) (er : Int) (n m p q : Nat) (la aa : Option Addr) (lc ac : Nat) (w : World) (hn : n = l.length) (hm : m = a.length) (hp : p = xs.length) (hq : q = ys.length) (hl : CellsAt w la (l.map (Value.int .i64))) (ha : CellsAt w aa (a.map (Value.int .i64))) (h1 : l.length ≤ 100) (h2 : a.length ≤ 100) (hr : tkNew l a = ((xs, ys), er)) :
    Calls Try.prog 11 #[.slice la n lc, .slice aa m ac] w fun e w' =>
      (∃ b1 c1 b2 c2, e = .returned (.tuple #[.agg #[.slice b1 p c1, .slice b2 q c2], .int .i64 er]) ∧ CellsAt w' b1 (xs.map (Value.int .i64)) ∧ CellsAt w' b2 (ys.map (Value.int .i64))) ∧ Below w.heap.size w w' := by
  subst hn hm hp hq
  refine (new_any l a la aa lc ac w hl ha (by omega) (by omega)).mono fun e w' ⟨⟨b1, c1, b2, c2, h1, h2, h3⟩, h4⟩ => ?_
  rw [hr] at h1 h2 h3
  exact ⟨⟨b1, c1, b2, c2, h1, h2, h3⟩, h4⟩
/-- Tasks in a row, at place k. -/
def At2 (w : World) (B k : Nat) (la : Option Addr) (n lc : Nat) (aa : Option Addr) (m ac : Nat) : Prop := w.cell? ⟨B, k * 2, none⟩ = some (.slice la n lc) ∧ w.cell? ⟨B, k * 2 + 1, none⟩ = some (.slice aa m ac)
theorem At2.later {w w' : World} {B k : Nat} {la aa : Option Addr} {n lc m ac : Nat} (h : At2 w B k la n lc aa m ac) (hb : Below w.heap.size w w') : At2 w' B k la n lc aa m ac :=
  ⟨cell_later hb h.1, cell_later hb h.2⟩
theorem bad_len : ∀ t, t < 8 → (badL t).length ≤ 13 ∧ (badA t).length ≤ 13 := by decide +kernel
def badCells (p1 p2 p3 p4 p5 p6 p7 q1 q3 q4 q5 q6 q7 : Value) : List Value := [.slice none 0 0, .slice none 0 0, p1, q1, p2, .slice none 0 0, p3, q3, p4, q4, p5, q5, p6, q6, p7, q7]
theorem BadRow.of {w : World} {B : Nat} {p1 p2 p3 p4 p5 p6 p7 q1 q3 q4 q5 q6 q7 : Value} (h : CellsAt w (some ⟨B, 0, none⟩) (badCells p1 p2 p3 p4 p5 p6 p7 q1 q3 q4 q5 q6 q7))
    (h1 : VRow 13 ((List.replicate 13 (0 : Int)).map (Value.int .i64)) p1 w) (k1 : VRow 13 ((List.replicate 13 (0 : Int)).map (Value.int .i64)) q1 w)
    (h2 : VRow 1 [.int .i64 1] p2 w) (h3 : VRow 1 [.int .i64 (-1)] p3 w) (k3 : VRow 1 [.int .i64 (-1)] q3 w) (h4 : VRow 1 [.int .i64 61] p4 w) (k4 : VRow 1 [.int .i64 (-1)] q4 w) (h5 : VRow 1 [.int .i64 1] p5 w) (k5 : VRow 1 [.int .i64 0] q5 w) (h6 : VRow 1 [.int .i64 1] p6 w) (k6 : VRow 1 [.int .i64 (-2)] q6 w) (h7 : VRow 2 [.int .i64 1, .int .i64 1] p7 w) (k7 : VRow 2 [.int .i64 (-1), .int .i64 1] q7 w) : BadRow w B := by
  have key : ∀ j u, (badCells p1 p2 p3 p4 p5 p6 p7 q1 q3 q4 q5 q6 q7)[j]? = some u → w.cell? ⟨B, j, none⟩ = some u := fun j u hj => by
    rcases h with h | ⟨b, o, ha, h⟩
    · rw [h] at hj; simp at hj
    · cases ha
      have := h j u hj
      rwa [Nat.zero_add] at this
  obtain ⟨_, _, rfl, h1⟩ := h1
  obtain ⟨_, _, rfl, h2⟩ := h2
  obtain ⟨_, _, rfl, h3⟩ := h3
  obtain ⟨_, _, rfl, h4⟩ := h4
  obtain ⟨_, _, rfl, h5⟩ := h5
  obtain ⟨_, _, rfl, h6⟩ := h6
  obtain ⟨_, _, rfl, h7⟩ := h7
  obtain ⟨_, _, rfl, k1⟩ := k1
  obtain ⟨_, _, rfl, k3⟩ := k3
  obtain ⟨_, _, rfl, k4⟩ := k4
  obtain ⟨_, _, rfl, k5⟩ := k5
  obtain ⟨_, _, rfl, k6⟩ := k6
  obtain ⟨_, _, rfl, k7⟩ := k7
  intro t ht
  match t, ht with
  | 0, _ => exact ⟨none, 0, none, 0, key 0 _ rfl, key 1 _ rfl, .inl rfl, .inl rfl⟩
  | 1, _ => exact ⟨_, _, _, _, key 2 _ rfl, key 3 _ rfl, h1, k1⟩
  | 2, _ => exact ⟨_, _, none, 0, key 4 _ rfl, key 5 _ rfl, h2, .inl rfl⟩
  | 3, _ => exact ⟨_, _, _, _, key 6 _ rfl, key 7 _ rfl, h3, k3⟩
  | 4, _ => exact ⟨_, _, _, _, key 8 _ rfl, key 9 _ rfl, h4, k4⟩
  | 5, _ => exact ⟨_, _, _, _, key 10 _ rfl, key 11 _ rfl, h5, k5⟩
  | 6, _ => exact ⟨_, _, _, _, key 12 _ rfl, key 13 _ rfl, h6, k6⟩
  | 7, _ => exact ⟨_, _, _, _, key 14 _ rfl, key 15 _ rfl, h7, k7⟩

set_option maxRecDepth 100000 in
set_option maxHeartbeats 40000000 in
theorem names_walk (w : World) :
    Calls Try.prog 8 #[] w fun e w' =>
      e = .returned (.bool true) ∧ Below w.heap.size w w' := by
  obtain ⟨i0, hi, hz0, hz1, hz2⟩ := info_parts info_i64
  have H_hi := Box.mk hi
  have H_hz0 := Box.mk hz0
  have H_hz1 := Box.mk hz1
  have H_hz2 := Box.mk hz2
  clear hi hz0 hz1 hz2
  go_enter Try.func8, Try.ntmps8
  have hb0 := Below.refl w.heap.size w
  go_wp2_with fail
  refine wp_gen fun w1 hc1 => ?_
  have hb1 : Below w.heap.size w w1 := bchain (by repeat' (first | with_reducible exact hb0 | with_reducible refine Below.drew ?_ | with_reducible refine below_drewN ?_ _ | with_reducible refine Below.alloc ?_ (by have := hb0.size; first | (simp; done) | (simp; omega) | omega) _ | with_reducible refine Below.setCell ?_ (by first | (simp; done) | (simp; omega) | omega) _)) hc1
  have hi := H_hi.out
  have hz0 := H_hz0.out
  have hz1 := H_hz1.out
  have hz2 := H_hz2.out
  refine wp_region_on_spec_tail [(1, [], fun _ => VRow 13 ((List.replicate 13 (0 : Int)).map (Value.int .i64))), (2, [], fun _ => VRow 13 ((List.replicate 13 (0 : Int)).map (Value.int .i64))), (4, [], fun _ => VRow 1 [.int .i64 1]), (6, [], fun _ => VRow 1 [.int .i64 (-1)]), (7, [], fun _ => VRow 1 [.int .i64 (-1)]), (9, [], fun _ => VRow 1 [.int .i64 61]), (10, [], fun _ => VRow 1 [.int .i64 (-1)]), (12, [], fun _ => VRow 1 [.int .i64 1]), (13, [], fun _ => VRow 1 [.int .i64 0]), (15, [], fun _ => VRow 1 [.int .i64 1]), (16, [], fun _ => VRow 1 [.int .i64 (-2)]), (18, [], fun _ => VRow 2 [.int .i64 1, .int .i64 1]), (19, [], fun _ => VRow 2 [.int .i64 (-1), .int .i64 1])] [1, 2, 4, 6, 7, 9, 10, 12, 13, 15, 16, 18, 19] [] [(1, []), (2, []), (4, []), (6, []), (7, []), (9, []), (10, []), (12, []), (13, []), (15, []), (16, []), (18, []), (19, [])] 21 (by kernel_rfl) (by kernel_rfl) rfl (by kernel_rfl) rfl (by kernel_rfl) ⟨fun _ => VRow.last, fun _ => VRow.last, fun _ => VRow.last, fun _ => VRow.last, fun _ => VRow.last, fun _ => VRow.last, fun _ => VRow.last, fun _ => VRow.last, fun _ => VRow.last, fun _ => VRow.last, fun _ => VRow.last, fun _ => VRow.last, fun _ => VRow.last, trivial⟩ ?_
  try simp only [List.take_succ_cons, List.take_zero, List.drop_succ_cons, List.drop_zero]
  refine wpSpec_quiet 1 (by kernel_rfl) (by kernel_rfl) ?_
  simp only [List.take_succ_cons, List.take_zero, List.drop_succ_cons, List.drop_zero]
  repeat (go_big_quiet_step (fail))
  refine wpQuiet_nil ?_
  show wpSpec _ _ _ _ _ _ _ _ _ _ _
  refine wpSpec_at [] (VRow 13 ((List.replicate 13 (0 : Int)).map (Value.int .i64))) rfl (by first | rfl | (simp [viewS, Act.eval]; done)) rfl (by first | rfl | (simp [Region.wanted]; done)) ?_ rfl ?_
  · intro wq hq hfq
    clear hfq
    refine gives_make 22 _ _ rfl 13 13 rfl rfl 3 i0 (.int .i64 0) Try.underlying22 hi hz0 hz1 (by rw [hz2]; omega) (by omega) (by omega) rfl ?_
    rintro w' rfl
    refine ⟨(Below.refl _ _).alloc (Nat.le_refl _) _, _, _, rfl, ?_⟩
    exact row_cells wq ((List.replicate 13 (0 : Int)).map (Value.int .i64)) 3 (0, 0) _ rfl _ (by simp)
  rintro x1 ⟨_, ⟨a1, c1, rfl, -⟩⟩
  simp only [Act.put, List.setIfInBounds_toArray, List.set_cons_succ, List.set_cons_zero]
  refine wpSpec_at [] (VRow 13 ((List.replicate 13 (0 : Int)).map (Value.int .i64))) rfl (by first | rfl | (simp [viewS, Act.eval]; done)) rfl (by first | rfl | (simp [Region.wanted]; done)) ?_ rfl ?_
  · intro wq hq hfq
    clear hfq
    refine gives_make 22 _ _ rfl 13 13 rfl rfl 3 i0 (.int .i64 0) Try.underlying22 hi hz0 hz1 (by rw [hz2]; omega) (by omega) (by omega) rfl ?_
    rintro w' rfl
    refine ⟨(Below.refl _ _).alloc (Nat.le_refl _) _, _, _, rfl, ?_⟩
    exact row_cells wq ((List.replicate 13 (0 : Int)).map (Value.int .i64)) 3 (0, 0) _ rfl _ (by simp)
  rintro x2 ⟨_, ⟨a2, c2, rfl, -⟩⟩
  simp only [Act.put, List.setIfInBounds_toArray, List.set_cons_succ, List.set_cons_zero]
  refine wpSpec_quiet 1 (by kernel_rfl) (by kernel_rfl) ?_
  simp only [List.take_succ_cons, List.take_zero, List.drop_succ_cons, List.drop_zero]
  repeat (go_big_quiet_step (fail))
  refine wpQuiet_nil ?_
  show wpSpec _ _ _ _ _ _ _ _ _ _ _
  refine wpSpec_at [] (VRow 1 [.int .i64 1]) rfl (by first | rfl | (simp [viewS, Act.eval]; done)) rfl (by first | rfl | (simp [Region.wanted]; done)) ?_ rfl ?_
  · intro wq hq hfq
    clear hfq
    unfold Oper.gives; go_simp
    exact ⟨(Below.refl _ _).alloc (Nat.le_refl _) _, _, _, rfl, cellsAt_lit wq [.int .i64 1] 3⟩
  rintro x4 ⟨_, ⟨a4, c4, rfl, -⟩⟩
  simp only [Act.put, List.setIfInBounds_toArray, List.set_cons_succ, List.set_cons_zero]
  refine wpSpec_quiet 1 (by kernel_rfl) (by kernel_rfl) ?_
  simp only [List.take_succ_cons, List.take_zero, List.drop_succ_cons, List.drop_zero]
  repeat (go_big_quiet_step (fail))
  refine wpQuiet_nil ?_
  show wpSpec _ _ _ _ _ _ _ _ _ _ _
  refine wpSpec_at [] (VRow 1 [.int .i64 (-1)]) rfl (by first | rfl | (simp [viewS, Act.eval]; done)) rfl (by first | rfl | (simp [Region.wanted]; done)) ?_ rfl ?_
  · intro wq hq hfq
    clear hfq
    unfold Oper.gives; go_simp
    exact ⟨(Below.refl _ _).alloc (Nat.le_refl _) _, _, _, rfl, cellsAt_lit wq [.int .i64 (-1)] 3⟩
  rintro x6 ⟨_, ⟨a6, c6, rfl, -⟩⟩
  simp only [Act.put, List.setIfInBounds_toArray, List.set_cons_succ, List.set_cons_zero]
  refine wpSpec_at [] (VRow 1 [.int .i64 (-1)]) rfl (by first | rfl | (simp [viewS, Act.eval]; done)) rfl (by first | rfl | (simp [Region.wanted]; done)) ?_ rfl ?_
  · intro wq hq hfq
    clear hfq
    unfold Oper.gives; go_simp
    exact ⟨(Below.refl _ _).alloc (Nat.le_refl _) _, _, _, rfl, cellsAt_lit wq [.int .i64 (-1)] 3⟩
  rintro x7 ⟨_, ⟨a7, c7, rfl, -⟩⟩
  simp only [Act.put, List.setIfInBounds_toArray, List.set_cons_succ, List.set_cons_zero]
  refine wpSpec_quiet 1 (by kernel_rfl) (by kernel_rfl) ?_
  simp only [List.take_succ_cons, List.take_zero, List.drop_succ_cons, List.drop_zero]
  repeat (go_big_quiet_step (fail))
  refine wpQuiet_nil ?_
  show wpSpec _ _ _ _ _ _ _ _ _ _ _
  refine wpSpec_at [] (VRow 1 [.int .i64 61]) rfl (by first | rfl | (simp [viewS, Act.eval]; done)) rfl (by first | rfl | (simp [Region.wanted]; done)) ?_ rfl ?_
  · intro wq hq hfq
    clear hfq
    unfold Oper.gives; go_simp
    exact ⟨(Below.refl _ _).alloc (Nat.le_refl _) _, _, _, rfl, cellsAt_lit wq [.int .i64 61] 3⟩
  rintro x9 ⟨_, ⟨a9, c9, rfl, -⟩⟩
  simp only [Act.put, List.setIfInBounds_toArray, List.set_cons_succ, List.set_cons_zero]
  refine wpSpec_at [] (VRow 1 [.int .i64 (-1)]) rfl (by first | rfl | (simp [viewS, Act.eval]; done)) rfl (by first | rfl | (simp [Region.wanted]; done)) ?_ rfl ?_
  · intro wq hq hfq
    clear hfq
    unfold Oper.gives; go_simp
    exact ⟨(Below.refl _ _).alloc (Nat.le_refl _) _, _, _, rfl, cellsAt_lit wq [.int .i64 (-1)] 3⟩
  rintro x10 ⟨_, ⟨a10, c10, rfl, -⟩⟩
  simp only [Act.put, List.setIfInBounds_toArray, List.set_cons_succ, List.set_cons_zero]
  refine wpSpec_quiet 1 (by kernel_rfl) (by kernel_rfl) ?_
  simp only [List.take_succ_cons, List.take_zero, List.drop_succ_cons, List.drop_zero]
  repeat (go_big_quiet_step (fail))
  refine wpQuiet_nil ?_
  show wpSpec _ _ _ _ _ _ _ _ _ _ _
  refine wpSpec_at [] (VRow 1 [.int .i64 1]) rfl (by first | rfl | (simp [viewS, Act.eval]; done)) rfl (by first | rfl | (simp [Region.wanted]; done)) ?_ rfl ?_
  · intro wq hq hfq
    clear hfq
    unfold Oper.gives; go_simp
    exact ⟨(Below.refl _ _).alloc (Nat.le_refl _) _, _, _, rfl, cellsAt_lit wq [.int .i64 1] 3⟩
  rintro x12 ⟨_, ⟨a12, c12, rfl, -⟩⟩
  simp only [Act.put, List.setIfInBounds_toArray, List.set_cons_succ, List.set_cons_zero]
  refine wpSpec_at [] (VRow 1 [.int .i64 0]) rfl (by first | rfl | (simp [viewS, Act.eval]; done)) rfl (by first | rfl | (simp [Region.wanted]; done)) ?_ rfl ?_
  · intro wq hq hfq
    clear hfq
    unfold Oper.gives; go_simp
    exact ⟨(Below.refl _ _).alloc (Nat.le_refl _) _, _, _, rfl, cellsAt_lit wq [.int .i64 0] 3⟩
  rintro x13 ⟨_, ⟨a13, c13, rfl, -⟩⟩
  simp only [Act.put, List.setIfInBounds_toArray, List.set_cons_succ, List.set_cons_zero]
  refine wpSpec_quiet 1 (by kernel_rfl) (by kernel_rfl) ?_
  simp only [List.take_succ_cons, List.take_zero, List.drop_succ_cons, List.drop_zero]
  repeat (go_big_quiet_step (fail))
  refine wpQuiet_nil ?_
  show wpSpec _ _ _ _ _ _ _ _ _ _ _
  refine wpSpec_at [] (VRow 1 [.int .i64 1]) rfl (by first | rfl | (simp [viewS, Act.eval]; done)) rfl (by first | rfl | (simp [Region.wanted]; done)) ?_ rfl ?_
  · intro wq hq hfq
    clear hfq
    unfold Oper.gives; go_simp
    exact ⟨(Below.refl _ _).alloc (Nat.le_refl _) _, _, _, rfl, cellsAt_lit wq [.int .i64 1] 3⟩
  rintro x15 ⟨_, ⟨a15, c15, rfl, -⟩⟩
  simp only [Act.put, List.setIfInBounds_toArray, List.set_cons_succ, List.set_cons_zero]
  refine wpSpec_at [] (VRow 1 [.int .i64 (-2)]) rfl (by first | rfl | (simp [viewS, Act.eval]; done)) rfl (by first | rfl | (simp [Region.wanted]; done)) ?_ rfl ?_
  · intro wq hq hfq
    clear hfq
    unfold Oper.gives; go_simp
    exact ⟨(Below.refl _ _).alloc (Nat.le_refl _) _, _, _, rfl, cellsAt_lit wq [.int .i64 (-2)] 3⟩
  rintro x16 ⟨_, ⟨a16, c16, rfl, -⟩⟩
  simp only [Act.put, List.setIfInBounds_toArray, List.set_cons_succ, List.set_cons_zero]
  refine wpSpec_quiet 1 (by kernel_rfl) (by kernel_rfl) ?_
  simp only [List.take_succ_cons, List.take_zero, List.drop_succ_cons, List.drop_zero]
  repeat (go_big_quiet_step (fail))
  refine wpQuiet_nil ?_
  show wpSpec _ _ _ _ _ _ _ _ _ _ _
  refine wpSpec_at [] (VRow 2 [.int .i64 1, .int .i64 1]) rfl (by first | rfl | (simp [viewS, Act.eval]; done)) rfl (by first | rfl | (simp [Region.wanted]; done)) ?_ rfl ?_
  · intro wq hq hfq
    clear hfq
    unfold Oper.gives; go_simp
    exact ⟨(Below.refl _ _).alloc (Nat.le_refl _) _, _, _, rfl, cellsAt_lit wq [.int .i64 1, .int .i64 1] 3⟩
  rintro x18 ⟨_, ⟨a18, c18, rfl, -⟩⟩
  simp only [Act.put, List.setIfInBounds_toArray, List.set_cons_succ, List.set_cons_zero]
  refine wpSpec_at [] (VRow 2 [.int .i64 (-1), .int .i64 1]) rfl (by first | rfl | (simp [viewS, Act.eval]; done)) rfl (by first | rfl | (simp [Region.wanted]; done)) ?_ rfl ?_
  · intro wq hq hfq
    clear hfq
    unfold Oper.gives; go_simp
    exact ⟨(Below.refl _ _).alloc (Nat.le_refl _) _, _, _, rfl, cellsAt_lit wq [.int .i64 (-1), .int .i64 1] 3⟩
  rintro x19 ⟨_, ⟨a19, c19, rfl, -⟩⟩
  simp only [Act.put, List.setIfInBounds_toArray, List.set_cons_succ, List.set_cons_zero]
  refine wpSpec_quiet 1 (by kernel_rfl) (by kernel_rfl) ?_
  simp only [List.take_succ_cons, List.take_zero, List.drop_succ_cons, List.drop_zero]
  repeat (go_big_quiet_step (fail))
  refine wpQuiet_nil ?_
  show wpSpec _ _ _ _ _ _ _ _ _ _ _
  intro w2 hc2 hfq
  have f1 := hfq 1
  have f2 := hfq 2
  have f4 := hfq 4
  have f6 := hfq 6
  have f7 := hfq 7
  have f9 := hfq 9
  have f10 := hfq 10
  have f12 := hfq 12
  have f13 := hfq 13
  have f15 := hfq 15
  have f16 := hfq 16
  have f18 := hfq 18
  have f19 := hfq 19
  simp only [upd, Nat.beq, cond] at f1 f2 f4 f6 f7 f9 f10 f12 f13 f15 f16 f18 f19
  clear hfq
  have hb2 : Below w.heap.size w w2 := bchain (by repeat' (first | with_reducible exact hb1 | with_reducible refine Below.drew ?_ | with_reducible refine below_drewN ?_ _ | with_reducible refine Below.alloc ?_ (by have := hb1.size; first | (simp; done) | (simp; omega) | omega) _ | with_reducible refine Below.setCell ?_ (by first | (simp; done) | (simp; omega) | omega) _)) hc2
  go_wp2_with fail
  refine wp_gen fun w3 hc3 => ?_
  have hB : BadRow w3 w2.heap.size := by
    refine BadRow.later (BadRow.of (p1 := .slice a1 13 c1) (q1 := .slice a2 13 c2) (p2 := .slice a4 1 c4) (p3 := .slice a6 1 c6) (q3 := .slice a7 1 c7) (p4 := .slice a9 1 c9) (q4 := .slice a10 1 c10) (p5 := .slice a12 1 c12) (q5 := .slice a13 1 c13) (p6 := .slice a15 1 c15) (q6 := .slice a16 1 c16) (p7 := .slice a18 2 c18) (q7 := .slice a19 2 c19) (row_cells w2 (badCells _ _ _ _ _ _ _ _ _ _ _ _ _) _ _ _ rfl _ rfl) (VRow.last _ _ _ f1 ((Below.refl _ _).alloc (Nat.le_refl _) _)) (VRow.last _ _ _ f2 ((Below.refl _ _).alloc (Nat.le_refl _) _)) (VRow.last _ _ _ f4 ((Below.refl _ _).alloc (Nat.le_refl _) _)) (VRow.last _ _ _ f6 ((Below.refl _ _).alloc (Nat.le_refl _) _)) (VRow.last _ _ _ f7 ((Below.refl _ _).alloc (Nat.le_refl _) _)) (VRow.last _ _ _ f9 ((Below.refl _ _).alloc (Nat.le_refl _) _)) (VRow.last _ _ _ f10 ((Below.refl _ _).alloc (Nat.le_refl _) _)) (VRow.last _ _ _ f12 ((Below.refl _ _).alloc (Nat.le_refl _) _)) (VRow.last _ _ _ f13 ((Below.refl _ _).alloc (Nat.le_refl _) _)) (VRow.last _ _ _ f15 ((Below.refl _ _).alloc (Nat.le_refl _) _)) (VRow.last _ _ _ f16 ((Below.refl _ _).alloc (Nat.le_refl _) _)) (VRow.last _ _ _ f18 ((Below.refl _ _).alloc (Nat.le_refl _) _)) (VRow.last _ _ _ f19 ((Below.refl _ _).alloc (Nat.le_refl _) _))) hc3
  have hb3 : Below w.heap.size w w3 := bchain (by repeat' (first | with_reducible exact hb2 | with_reducible refine Below.drew ?_ | with_reducible refine below_drewN ?_ _ | with_reducible refine Below.alloc ?_ (by have := hb2.size; first | (simp; done) | (simp; omega) | omega) _ | with_reducible refine Below.setCell ?_ (by first | (simp; done) | (simp; omega) | omega) _)) hc3
  clear f1 f2 f4 f6 f7 f9 f10 f12 f13 f15 f16 f18 f19
  obtain ⟨B, hBe⟩ : ∃ B, B = w2.heap.size := ⟨_, rfl⟩
  rw [← hBe] at hB
  rw [← hBe]
  clear hBe hc3
  go_loopw [2] (fun i wr => ∃ k : Nat, k ≤ 8 ∧ i = .int .i64 k ∧ Below w.heap.size w wr ∧ BadRow wr B) (fun i _ => 8 - (intOf i).toNat)
  case atStart => exact ⟨0, by omega, rfl, hb3, hB⟩
  case round =>
    obtain ⟨k, hk, rfl, hbw, hB⟩ := hrel
    by_cases hlt : k < 8
    · have hlt' : (k : Int) < 8 := by omega
      obtain ⟨la, lc, aa, ac, h0, h1, h2, h3⟩ := hB k hlt
      have he := Box.mk (bad_err k hlt)
      have hm := bad_len k hlt
      obtain ⟨l, hl⟩ : ∃ l, l = badL k := ⟨_, rfl⟩
      obtain ⟨a, ha⟩ : ∃ a, a = badA k := ⟨_, rfl⟩
      rw [← hl] at h0 h2 he hm
      rw [← ha] at h1 h3 he hm
      have hm1 : Box (l.length ≤ 100) := ⟨by omega⟩
      have hm2 : Box (a.length ≤ 100) := ⟨by omega⟩
      have hml : Box (l.length ≤ maxLen) := ⟨by unfold maxLen; omega⟩
      clear hm hl ha
      have hR : At2 wr B k la l.length lc aa a.length ac := ⟨h0, h1⟩
      clear h0 h1
      have hi := H_hi.out
      have hz0 := H_hz0.out
      have hz1 := H_hz1.out
      have hz2 := H_hz2.out
      obtain ⟨h0, h1⟩ := hR
      have zB := World.block_lt_of_cell? _ _ h0
      simp only at zB
      have qB := Nat.ne_of_lt zB
      have hR : At2 _ B k la l.length lc aa a.length ac := ⟨h0, h1⟩
      go_wp2_with fail
      refine wp_gen fun w11 hc11 => ?_
      have hb11 : Below w.heap.size w w11 := bchain (by repeat' (first | with_reducible exact hbw | with_reducible refine Below.drew ?_ | with_reducible refine below_drewN ?_ _ | with_reducible refine Below.alloc ?_ (by have := hbw.size; first | (simp; done) | (simp; omega) | omega) _ | with_reducible refine Below.setCell ?_ (by first | (simp; done) | (simp; omega) | omega) _)) hc11
      have hst11 : Below wr.heap.size wr w11 := bchain (by repeat' (first | with_reducible exact Below.refl _ _ | with_reducible refine Below.drew ?_ | with_reducible refine below_drewN ?_ _ | with_reducible refine Below.alloc ?_ (by first | (simp; done) | (simp; omega) | omega) _ | with_reducible refine Below.setCell ?_ (by first | (simp; done) | (simp; omega) | omega) _)) hc11
      replace hB := hB.later hst11
      replace h2 := h2.later hst11
      replace h3 := h3.later hst11
      replace hR := hR.later hst11
      clear hst11
      clear h0 h1
      obtain ⟨h0, h1⟩ := hR
      have zB := World.block_lt_of_cell? _ _ h0
      simp only at zB
      have qB := Nat.ne_of_lt zB
      have hR : At2 _ B k la l.length lc aa a.length ac := ⟨h0, h1⟩
      have K0 := cell_on h0
      have K1 := cell_on h1
      refine wp_region_on_spec [(10, [], fun _ => VErr2 8), (14, [], fun _ => VBlk w11.heap.size 24 [.slice none 0 0, .slice none 0 0]), (15, [3], fun l => VAny)] [10, 14, 15] [15] [(10, []), (14, []), (15, [3])] (by kernel_rfl) (by kernel_rfl) rfl (by kernel_rfl) rfl (by kernel_rfl) ⟨fun _ => VErr2.last, fun _ => VBlk.last, fun _ => VAny.last, trivial⟩ ?_
      try simp only [List.take_succ_cons, List.take_zero, List.drop_succ_cons, List.drop_zero]
      refine wpSpec_quiet 10 (by kernel_rfl) (by kernel_rfl) ?_
      simp only [List.take_succ_cons, List.take_zero, List.drop_succ_cons, List.drop_zero]
      repeat (go_big_quiet_step (fail))
      refine wpQuiet_nil ?_
      show wpSpec _ _ _ _ _ _ _ _ _ _ _
      refine wpSpec_at [] (VErr2 8) rfl (by first | rfl | (simp [viewS, Act.eval]; done)) rfl (by first | rfl | (simp [Region.wanted]; done)) ?_ rfl ?_
      · intro wq hq hfq
        clear hfq
        refine gives_call 11 _ _ #[.slice la l.length lc, .slice aa a.length ac] rfl (by kernel_rfl) (by simp [Act.eval]) ((new_r l a [] [] 8 _ _ 0 0 la aa lc ac wq rfl rfl rfl rfl (h2.later hq) (h3.later hq) hm1.out hm2.out (bad_new he.out)).mono ?_)
        rintro e w' ⟨⟨b1, c1, b2, c2, rfl, _, _⟩, hb⟩
        exact ⟨_, rfl, hb, _, _, _, _, rfl⟩
      rintro x10 ⟨_, ⟨p1, p2, p3, p4, rfl⟩⟩
      simp only [Act.put, List.setIfInBounds_toArray, List.set_cons_succ, List.set_cons_zero]
      refine wpSpec_quiet 3 (by kernel_rfl) (by kernel_rfl) ?_
      simp only [List.take_succ_cons, List.take_zero, List.drop_succ_cons, List.drop_zero]
      repeat (go_big_quiet_step (fail))
      refine wpQuiet_nil ?_
      show wpSpec _ _ _ _ _ _ _ _ _ _ _
      refine wpSpec_at [] (VBlk w11.heap.size 24 [.slice none 0 0, .slice none 0 0]) rfl (by first | rfl | (simp [viewS, Act.eval]; done)) rfl (by first | rfl | (simp [Region.wanted]; done)) ?_ rfl ?_
      · intro wq hq hfq
        clear hfq
        unfold Oper.gives; go_simp; exact ⟨(Below.refl _ _).alloc (Nat.le_refl _) _, _, rfl, hq.size, Blk.newA _ _ _ _ _ rfl rfl⟩
      rintro x14 ⟨_, ⟨b14, rfl, hb14, -⟩⟩
      simp only [Act.put, List.setIfInBounds_toArray, List.set_cons_succ, List.set_cons_zero]
      refine wpSpec_atD [.pointer (some ⟨b14, 0, none⟩)] (VAny) rfl (by first | rfl | (simp [viewS, Act.eval]; done)) rfl (by first | rfl | (simp [Region.wanted]; done)) ?_ rfl ?_
      · intro wq hq hfq
        have f14 := hfq 14 (by kernel_rfl)
        simp only [upd, Nat.beq, cond] at f14
        clear hfq
        obtain ⟨b14', he14, hb14l, hB14⟩ := f14
        cases he14
        refine gives_store_blk 24 _ _ rfl b14 rfl 24 _ [.slice p1 0 p2, .slice p3 0 p4] rfl hB14 rfl infoT (by intro v hv; simp only [List.mem_cons, List.not_mem_nil, or_false] at hv; rcases hv with rfl | rfl <;> rfl) fun hS => ?_
        exact ⟨below_setCells hb14l _ _ _ (Below.refl _ _), trivial⟩
      rintro x15 -
      simp only [Act.put, List.setIfInBounds_toArray, List.set_cons_succ, List.set_cons_zero]
      refine wpSpec_quiet 1 (by kernel_rfl) (by kernel_rfl) ?_
      simp only [List.take_succ_cons, List.take_zero, List.drop_succ_cons, List.drop_zero]
      repeat (go_big_quiet_step (fail))
      refine wpQuiet_nil ?_
      show wpSpec _ _ _ _ _ _ _ _ _ _ _
      intro w12 hc12 hfq
      clear hfq
      have hb12 : Below w.heap.size w w12 := bchain (by repeat' (first | with_reducible exact hb11 | with_reducible refine Below.drew ?_ | with_reducible refine below_drewN ?_ _ | with_reducible refine Below.alloc ?_ (by have := hb11.size; first | (simp; done) | (simp; omega) | omega) _ | with_reducible refine Below.setCell ?_ (by first | (simp; done) | (simp; omega) | omega) _)) hc12
      have hst12 : Below w11.heap.size w11 w12 := bchain (by repeat' (first | with_reducible exact Below.refl _ _ | with_reducible refine Below.drew ?_ | with_reducible refine below_drewN ?_ _ | with_reducible refine Below.alloc ?_ (by first | (simp; done) | (simp; omega) | omega) _ | with_reducible refine Below.setCell ?_ (by first | (simp; done) | (simp; omega) | omega) _)) hc12
      replace hB := hB.later hst12
      replace h2 := h2.later hst12
      replace h3 := h3.later hst12
      replace hR := hR.later hst12
      clear hst12
      clear h0 h1 K0 K1
      obtain ⟨h0, h1⟩ := hR
      have zB := World.block_lt_of_cell? _ _ h0
      simp only at zB
      have qB := Nat.ne_of_lt zB
      have hR : At2 _ B k la l.length lc aa a.length ac := ⟨h0, h1⟩
      go_wp2_with fail
      refine (runnable_r l a [] 8 _ _ 0 la aa lc ac _ rfl rfl rfl (by repeat' (first | with_reducible exact h2 | with_reducible refine CellsAt.setFar ?_ ?_ _ | with_reducible refine CellsAt.alloc ?_ _ | with_reducible refine CellsAt.drew ?_ | with_reducible refine CellsAt.drewN ?_ _ | assumption | (simp; omega) | omega)) (by repeat' (first | with_reducible exact h3 | with_reducible refine CellsAt.setFar ?_ ?_ _ | with_reducible refine CellsAt.alloc ?_ _ | with_reducible refine CellsAt.drew ?_ | with_reducible refine CellsAt.drewN ?_ _ | assumption | (simp; omega) | omega)) hml.out (bad_runs he.out)).mono ?_
      rintro e w13 ⟨⟨r1, e1, rfl, _⟩, hc13⟩
      have hb13 : Below w.heap.size w w13 := bchain (by repeat' (first | with_reducible exact hb12 | with_reducible refine Below.drew ?_ | with_reducible refine below_drewN ?_ _ | with_reducible refine Below.alloc ?_ (by have := hb12.size; first | (simp; done) | (simp; omega) | omega) _ | with_reducible refine Below.setCell ?_ (by first | (simp; done) | (simp; omega) | omega) _)) hc13
      have hst13 : Below w12.heap.size w12 w13 := bchain (by repeat' (first | with_reducible exact Below.refl _ _ | with_reducible refine Below.drew ?_ | with_reducible refine below_drewN ?_ _ | with_reducible refine Below.alloc ?_ (by first | (simp; done) | (simp; omega) | omega) _ | with_reducible refine Below.setCell ?_ (by first | (simp; done) | (simp; omega) | omega) _)) hc13
      replace hB := hB.later hst13
      replace h2 := h2.later hst13
      replace h3 := h3.later hst13
      replace hR := hR.later hst13
      clear hst13
      clear hc13 hb12
      clear h0 h1
      obtain ⟨h0, h1⟩ := hR
      have zB := World.block_lt_of_cell? _ _ h0
      simp only at zB
      have qB := Nat.ne_of_lt zB
      have hR : At2 _ B k la l.length lc aa a.length ac := ⟨h0, h1⟩
      go_wp2_with fail
      refine wp_gen fun w14 hc14 => ?_
      have hb14 : Below w.heap.size w w14 := bchain (by repeat' (first | with_reducible exact hb13 | with_reducible refine Below.drew ?_ | with_reducible refine below_drewN ?_ _ | with_reducible refine Below.alloc ?_ (by have := hb13.size; first | (simp; done) | (simp; omega) | omega) _ | with_reducible refine Below.setCell ?_ (by first | (simp; done) | (simp; omega) | omega) _)) hc14
      have hst14 : Below w13.heap.size w13 w14 := bchain (by repeat' (first | with_reducible exact Below.refl _ _ | with_reducible refine Below.drew ?_ | with_reducible refine below_drewN ?_ _ | with_reducible refine Below.alloc ?_ (by first | (simp; done) | (simp; omega) | omega) _ | with_reducible refine Below.setCell ?_ (by first | (simp; done) | (simp; omega) | omega) _)) hc14
      replace hB := hB.later hst14
      replace h2 := h2.later hst14
      replace h3 := h3.later hst14
      replace hR := hR.later hst14
      clear hst14
      clear h0 h1
      obtain ⟨h0, h1⟩ := hR
      have zB := World.block_lt_of_cell? _ _ h0
      simp only at zB
      have qB := Nat.ne_of_lt zB
      have hR : At2 _ B k la l.length lc aa a.length ac := ⟨h0, h1⟩
      have K0 := cell_on h0
      have K1 := cell_on h1
      refine wp_region_on_spec [(4, [], fun _ => VRow 301 ((List.replicate 301 (0 : Int)).map (Value.int .i64))), (5, [], fun _ => VErr3 8), (10, [], fun _ => VBlk w14.heap.size 24 [.slice none 0 0, .slice none 0 0]), (11, [7], fun l => VAny)] [4, 5, 10, 11] [11] [(4, []), (5, []), (10, []), (11, [7])] (by kernel_rfl) (by kernel_rfl) rfl (by kernel_rfl) rfl (by kernel_rfl) ⟨fun _ => VRow.last, fun _ => VErr3.last, fun _ => VBlk.last, fun _ => VAny.last, trivial⟩ ?_
      try simp only [List.take_succ_cons, List.take_zero, List.drop_succ_cons, List.drop_zero]
      refine wpSpec_quiet 4 (by kernel_rfl) (by kernel_rfl) ?_
      simp only [List.take_succ_cons, List.take_zero, List.drop_succ_cons, List.drop_zero]
      repeat (go_big_quiet_step (fail))
      refine wpQuiet_nil ?_
      show wpSpec _ _ _ _ _ _ _ _ _ _ _
      refine wpSpec_at [] (VRow 301 ((List.replicate 301 (0 : Int)).map (Value.int .i64))) rfl (by first | rfl | (simp [viewS, Act.eval]; done)) rfl (by first | rfl | (simp [Region.wanted]; done)) ?_ rfl ?_
      · intro wq hq hfq
        clear hfq
        refine gives_make 22 _ _ rfl 301 301 rfl rfl 3 i0 (.int .i64 0) Try.underlying22 hi hz0 hz1 (by rw [hz2]; omega) (by omega) (by omega) rfl ?_
        rintro w' rfl
        refine ⟨(Below.refl _ _).alloc (Nat.le_refl _) _, _, _, rfl, ?_⟩
        exact row_cells wq ((List.replicate 301 (0 : Int)).map (Value.int .i64)) 3 (0, 0) _ rfl _ (by simp)
      rintro x4 ⟨_, ⟨m1, n1, rfl, -⟩⟩
      simp only [Act.put, List.setIfInBounds_toArray, List.set_cons_succ, List.set_cons_zero]
      refine wpSpec_at [] (VErr3 8) rfl (by first | rfl | (simp [viewS, Act.eval]; done)) rfl (by first | rfl | (simp [Region.wanted]; done)) ?_ rfl ?_
      · intro wq hq hfq
        have f4 := hfq 4 (by kernel_rfl)
        simp only [upd, Nat.beq, cond] at f4
        clear hfq
        obtain ⟨m1', n1', he4, k4⟩ := f4
        cases he4
        refine gives_call 19 _ _ #[.agg #[.slice la l.length lc, .slice aa a.length ac], .slice m1 301 n1] rfl (by kernel_rfl) (by simp [Act.eval]) ((run_r l a (List.replicate 301 0) [] [] [] 8 _ _ 301 0 0 0 la aa m1 lc ac n1 wq rfl rfl rfl rfl rfl rfl (h2.later hq) (h3.later hq) k4 hml.out (bad_run _ he.out)).mono ?_)
        rintro e w' ⟨⟨q1, q2, q3, q4, q5, q6, rfl, _, _, _⟩, hb⟩
        exact ⟨_, rfl, hb, _, _, _, _, _, _, rfl⟩
      rintro x5 ⟨_, ⟨p5, p6, p7, p8, p9, p10, rfl⟩⟩
      simp only [Act.put, List.setIfInBounds_toArray, List.set_cons_succ, List.set_cons_zero]
      refine wpSpec_quiet 4 (by kernel_rfl) (by kernel_rfl) ?_
      simp only [List.take_succ_cons, List.take_zero, List.drop_succ_cons, List.drop_zero]
      repeat (go_big_quiet_step (fail))
      refine wpQuiet_nil ?_
      show wpSpec _ _ _ _ _ _ _ _ _ _ _
      refine wpSpec_at [] (VBlk w14.heap.size 24 [.slice none 0 0, .slice none 0 0]) rfl (by first | rfl | (simp [viewS, Act.eval]; done)) rfl (by first | rfl | (simp [Region.wanted]; done)) ?_ rfl ?_
      · intro wq hq hfq
        clear hfq
        unfold Oper.gives; go_simp; exact ⟨(Below.refl _ _).alloc (Nat.le_refl _) _, _, rfl, hq.size, Blk.newA _ _ _ _ _ rfl rfl⟩
      rintro x10 ⟨_, ⟨b10, rfl, hb10, -⟩⟩
      simp only [Act.put, List.setIfInBounds_toArray, List.set_cons_succ, List.set_cons_zero]
      refine wpSpec_atD [.pointer (some ⟨b10, 0, none⟩)] (VAny) rfl (by first | rfl | (simp [viewS, Act.eval]; done)) rfl (by first | rfl | (simp [Region.wanted]; done)) ?_ rfl ?_
      · intro wq hq hfq
        have f10 := hfq 10 (by kernel_rfl)
        simp only [upd, Nat.beq, cond] at f10
        clear hfq
        obtain ⟨b10', he10, hb10l, hB10⟩ := f10
        cases he10
        refine gives_store_blk 24 _ _ rfl b10 rfl 24 _ [.slice p5 0 p6, .slice p7 0 p8] rfl hB10 rfl infoT (by intro v hv; simp only [List.mem_cons, List.not_mem_nil, or_false] at hv; rcases hv with rfl | rfl <;> rfl) fun hS => ?_
        exact ⟨below_setCells hb10l _ _ _ (Below.refl _ _), trivial⟩
      rintro x11 -
      simp only [Act.put, List.setIfInBounds_toArray, List.set_cons_succ, List.set_cons_zero]
      refine wpSpec_quiet 2 (by kernel_rfl) (by kernel_rfl) ?_
      simp only [List.take_succ_cons, List.take_zero, List.drop_succ_cons, List.drop_zero]
      repeat (go_big_quiet_step (fail))
      refine wpQuiet_nil ?_
      show wpSpec _ _ _ _ _ _ _ _ _ _ _
      intro w15 hc15 hfq
      clear hfq
      have hb15 : Below w.heap.size w w15 := bchain (by repeat' (first | with_reducible exact hb14 | with_reducible refine Below.drew ?_ | with_reducible refine below_drewN ?_ _ | with_reducible refine Below.alloc ?_ (by have := hb14.size; first | (simp; done) | (simp; omega) | omega) _ | with_reducible refine Below.setCell ?_ (by first | (simp; done) | (simp; omega) | omega) _)) hc15
      have hst15 : Below w14.heap.size w14 w15 := bchain (by repeat' (first | with_reducible exact Below.refl _ _ | with_reducible refine Below.drew ?_ | with_reducible refine below_drewN ?_ _ | with_reducible refine Below.alloc ?_ (by first | (simp; done) | (simp; omega) | omega) _ | with_reducible refine Below.setCell ?_ (by first | (simp; done) | (simp; omega) | omega) _)) hc15
      replace hB := hB.later hst15
      replace h2 := h2.later hst15
      replace h3 := h3.later hst15
      replace hR := hR.later hst15
      clear hst15
      clear h0 h1 K0 K1
      obtain ⟨h0, h1⟩ := hR
      have zB := World.block_lt_of_cell? _ _ h0
      simp only at zB
      have qB := Nat.ne_of_lt zB
      have hR : At2 _ B k la l.length lc aa a.length ac := ⟨h0, h1⟩
      go_wp2_with fail
      refine (rounds_r l a [] 8 (-1) _ _ 0 la aa lc ac _ rfl rfl rfl (by repeat' (first | with_reducible exact h2 | with_reducible refine CellsAt.setFar ?_ ?_ _ | with_reducible refine CellsAt.alloc ?_ _ | with_reducible refine CellsAt.drew ?_ | with_reducible refine CellsAt.drewN ?_ _ | assumption | (simp; omega) | omega)) (by repeat' (first | with_reducible exact h3 | with_reducible refine CellsAt.setFar ?_ ?_ _ | with_reducible refine CellsAt.alloc ?_ _ | with_reducible refine CellsAt.drew ?_ | with_reducible refine CellsAt.drewN ?_ _ | assumption | (simp; omega) | omega)) hml.out (bad_rounds _ he.out)).mono ?_
      rintro e w16 ⟨⟨r2, e2, rfl, _⟩, hc16⟩
      have hb16 : Below w.heap.size w w16 := bchain (by repeat' (first | with_reducible exact hb15 | with_reducible refine Below.drew ?_ | with_reducible refine below_drewN ?_ _ | with_reducible refine Below.alloc ?_ (by have := hb15.size; first | (simp; done) | (simp; omega) | omega) _ | with_reducible refine Below.setCell ?_ (by first | (simp; done) | (simp; omega) | omega) _)) hc16
      have hst16 : Below w15.heap.size w15 w16 := bchain (by repeat' (first | with_reducible exact Below.refl _ _ | with_reducible refine Below.drew ?_ | with_reducible refine below_drewN ?_ _ | with_reducible refine Below.alloc ?_ (by first | (simp; done) | (simp; omega) | omega) _ | with_reducible refine Below.setCell ?_ (by first | (simp; done) | (simp; omega) | omega) _)) hc16
      replace hB := hB.later hst16
      replace h2 := h2.later hst16
      replace h3 := h3.later hst16
      replace hR := hR.later hst16
      clear hst16
      clear hc16 hb15
      clear h0 h1
      obtain ⟨h0, h1⟩ := hR
      have zB := World.block_lt_of_cell? _ _ h0
      simp only at zB
      have qB := Nat.ne_of_lt zB
      have hR : At2 _ B k la l.length lc aa a.length ac := ⟨h0, h1⟩
      go_wp2_with fail
      refine (tcheck_any l a la aa lc ac _ (by repeat' (first | with_reducible exact h2 | with_reducible refine CellsAt.setFar ?_ ?_ _ | with_reducible refine CellsAt.alloc ?_ _ | with_reducible refine CellsAt.drew ?_ | with_reducible refine CellsAt.drewN ?_ _ | assumption | (simp; omega) | omega)) (by repeat' (first | with_reducible exact h3 | with_reducible refine CellsAt.setFar ?_ ?_ _ | with_reducible refine CellsAt.alloc ?_ _ | with_reducible refine CellsAt.drew ?_ | with_reducible refine CellsAt.drewN ?_ _ | assumption | (simp; omega) | omega)) hml.out).mono ?_
      rintro e w17 ⟨rfl, hc17⟩
      have hb17 : Below w.heap.size w w17 := bchain (by repeat' (first | with_reducible exact hb16 | with_reducible refine Below.drew ?_ | with_reducible refine below_drewN ?_ _ | with_reducible refine Below.alloc ?_ (by have := hb16.size; first | (simp; done) | (simp; omega) | omega) _ | with_reducible refine Below.setCell ?_ (by first | (simp; done) | (simp; omega) | omega) _)) hc17
      have hst17 : Below w16.heap.size w16 w17 := bchain (by repeat' (first | with_reducible exact Below.refl _ _ | with_reducible refine Below.drew ?_ | with_reducible refine below_drewN ?_ _ | with_reducible refine Below.alloc ?_ (by first | (simp; done) | (simp; omega) | omega) _ | with_reducible refine Below.setCell ?_ (by first | (simp; done) | (simp; omega) | omega) _)) hc17
      replace hB := hB.later hst17
      replace h2 := h2.later hst17
      replace h3 := h3.later hst17
      replace hR := hR.later hst17
      clear hst17
      clear hc17 hb16
      rw [he.out]
      go_wp2_with fail
      go_roundw
      case rel => exact ⟨k + 1, by omega, by go_num, hb17, hB⟩
      case measure => simp [intOf]; omega
    · obtain rfl : k = 8 := by omega
      clear hB
      go_wp2_with fail
      refine (given_any _).mono ?_
      rintro e w11 ⟨pl, pc, pa, pd, rfl, pk, pm, hc11⟩
      have hb11 : Below w.heap.size w w11 := bchain (by repeat' (first | with_reducible exact hbw | with_reducible refine Below.drew ?_ | with_reducible refine below_drewN ?_ _ | with_reducible refine Below.alloc ?_ (by have := hbw.size; first | (simp; done) | (simp; omega) | omega) _ | with_reducible refine Below.setCell ?_ (by first | (simp; done) | (simp; omega) | omega) _)) hc11
      clear hc11 hbw
      go_wp2_with fail
      refine (pick_r [2, 1, 1] [-1, -1, 0] 3 [] [] [] 2 3 3 0 0 pl pa pc pd _ rfl rfl rfl rfl (by repeat' (first | with_reducible exact pk | with_reducible refine CellsAt.setFar ?_ ?_ _ | with_reducible refine CellsAt.alloc ?_ _ | with_reducible refine CellsAt.drew ?_ | with_reducible refine CellsAt.drewN ?_ _ | assumption | (simp; omega) | omega)) (by repeat' (first | with_reducible exact pm | with_reducible refine CellsAt.setFar ?_ ?_ _ | with_reducible refine CellsAt.alloc ?_ _ | with_reducible refine CellsAt.drew ?_ | with_reducible refine CellsAt.drewN ?_ _ | assumption | (simp; omega) | omega)) (by decide) (by decide +kernel)).mono ?_
      rintro e w12 ⟨⟨r1, e1, r2, e2, rfl, _, _⟩, hc12⟩
      have hb12 : Below w.heap.size w w12 := bchain (by repeat' (first | with_reducible exact hb11 | with_reducible refine Below.drew ?_ | with_reducible refine below_drewN ?_ _ | with_reducible refine Below.alloc ?_ (by have := hb11.size; first | (simp; done) | (simp; omega) | omega) _ | with_reducible refine Below.setCell ?_ (by first | (simp; done) | (simp; omega) | omega) _)) hc12
      clear hc12 hb11
      go_wp2_with fail
      refine (given_any _).mono ?_
      rintro e w13 ⟨ql, qc, qa, qd, rfl, qk, qm, hc13⟩
      have hb13 : Below w.heap.size w w13 := bchain (by repeat' (first | with_reducible exact hb12 | with_reducible refine Below.drew ?_ | with_reducible refine below_drewN ?_ _ | with_reducible refine Below.alloc ?_ (by have := hb12.size; first | (simp; done) | (simp; omega) | omega) _ | with_reducible refine Below.setCell ?_ (by first | (simp; done) | (simp; omega) | omega) _)) hc13
      clear hc13 hb12
      go_wp2_with fail
      refine (pick_r [2, 1, 1] [-1, -1, 0] (-1) [] [] [] 2 3 3 0 0 ql qa qc qd _ rfl rfl rfl rfl (by repeat' (first | with_reducible exact qk | with_reducible refine CellsAt.setFar ?_ ?_ _ | with_reducible refine CellsAt.alloc ?_ _ | with_reducible refine CellsAt.drew ?_ | with_reducible refine CellsAt.drewN ?_ _ | assumption | (simp; omega) | omega)) (by repeat' (first | with_reducible exact qm | with_reducible refine CellsAt.setFar ?_ ?_ _ | with_reducible refine CellsAt.alloc ?_ _ | with_reducible refine CellsAt.drew ?_ | with_reducible refine CellsAt.drewN ?_ _ | assumption | (simp; omega) | omega)) (by decide) (by decide +kernel)).mono ?_
      rintro e w14 ⟨⟨r3, e3, r4, e4, rfl, _, _⟩, hc14⟩
      have hb14 : Below w.heap.size w w14 := bchain (by repeat' (first | with_reducible exact hb13 | with_reducible refine Below.drew ?_ | with_reducible refine below_drewN ?_ _ | with_reducible refine Below.alloc ?_ (by have := hb13.size; first | (simp; done) | (simp; omega) | omega) _ | with_reducible refine Below.setCell ?_ (by first | (simp; done) | (simp; omega) | omega) _)) hc14
      clear hc14 hb13
      go_wp2_with fail
      refine wp_gen fun w15 hc15 => ?_
      have hb15 : Below w.heap.size w w15 := bchain (by repeat' (first | with_reducible exact hb14 | with_reducible refine Below.drew ?_ | with_reducible refine below_drewN ?_ _ | with_reducible refine Below.alloc ?_ (by have := hb14.size; first | (simp; done) | (simp; omega) | omega) _ | with_reducible refine Below.setCell ?_ (by first | (simp; done) | (simp; omega) | omega) _)) hc15
      have hi := H_hi.out
      have hz0 := H_hz0.out
      have hz1 := H_hz1.out
      have hz2 := H_hz2.out
      refine wp_region_on_spec [(0, [], fun _ => VGiven), (1, [], fun _ => VAt 300 ((List.replicate 300 (0 : Int)).map (Value.int .i64))), (2, [], fun _ => VAt 1 [.int .i64 9]), (3, [], fun _ => VRow 301 ((List.replicate 300 (0 : Int)).map (Value.int .i64) ++ [.int .i64 9])), (4, [], fun _ => VErr3 4), (9, [], fun _ => VBlk w15.heap.size 24 [.slice none 0 0, .slice none 0 0]), (10, [18], fun l => VAny)] [0, 1, 2, 3, 4, 9, 10] [10] [(0, []), (1, []), (2, []), (3, []), (4, []), (9, []), (10, [18])] (by kernel_rfl) (by kernel_rfl) rfl (by kernel_rfl) rfl (by kernel_rfl) ⟨fun _ => VGiven.last, fun _ => VAt.last, fun _ => VAt.last, fun _ => VRow.last, fun _ => VErr3.last, fun _ => VBlk.last, fun _ => VAny.last, trivial⟩ ?_
      try simp only [List.take_succ_cons, List.take_zero, List.drop_succ_cons, List.drop_zero]
      refine wpSpec_at [] (VGiven) rfl (by first | rfl | (simp [viewS, Act.eval]; done)) rfl (by first | rfl | (simp [Region.wanted]; done)) ?_ rfl ?_
      · intro wq hq hfq
        clear hfq
        refine gives_call 32 _ _ #[] rfl (by kernel_rfl) (by simp) ((given_any _).mono ?_)
        rintro e w' ⟨g1, g2, g3, g4, rfl, k1, k2, hb⟩
        exact ⟨_, rfl, hb, _, _, _, _, rfl, k1, k2⟩
      rintro x0 ⟨_, ⟨g1, g2, g3, g4, rfl, -⟩⟩
      simp only [Act.put, List.setIfInBounds_toArray, List.set_cons_succ, List.set_cons_zero]
      refine wpSpec_at [] (VAt 300 ((List.replicate 300 (0 : Int)).map (Value.int .i64))) rfl (by first | rfl | (simp [viewS, Act.eval]; done)) rfl (by first | rfl | (simp [Region.wanted]; done)) ?_ rfl ?_
      · intro wq hq hfq
        clear hfq
        refine gives_make 22 _ _ rfl 300 300 rfl rfl 3 i0 (.int .i64 0) Try.underlying22 hi hz0 hz1 (by rw [hz2]; omega) (by omega) (by omega) rfl ?_
        rintro w' rfl
        refine ⟨(Below.refl _ _).alloc (Nat.le_refl _) _, _, rfl, ?_⟩
        exact row_cells wq ((List.replicate 300 (0 : Int)).map (Value.int .i64)) 3 (0, 0) _ rfl _ (by simp)
      rintro x1 ⟨_, ⟨m1, rfl, -⟩⟩
      simp only [Act.put, List.setIfInBounds_toArray, List.set_cons_succ, List.set_cons_zero]
      refine wpSpec_at [] (VAt 1 [.int .i64 9]) rfl (by first | rfl | (simp [viewS, Act.eval]; done)) rfl (by first | rfl | (simp [Region.wanted]; done)) ?_ rfl ?_
      · intro wq hq hfq
        clear hfq
        unfold Oper.gives; go_simp
        exact ⟨(Below.refl _ _).alloc (Nat.le_refl _) _, _, rfl, cellsAt_lit wq [.int .i64 9] 3⟩
      rintro x2 ⟨_, ⟨m2, rfl, -⟩⟩
      simp only [Act.put, List.setIfInBounds_toArray, List.set_cons_succ, List.set_cons_zero]
      refine wpSpec_at [] (VRow 301 ((List.replicate 300 (0 : Int)).map (Value.int .i64) ++ [.int .i64 9])) rfl (by first | rfl | (simp [viewS, Act.eval]; done)) rfl (by first | rfl | (simp [Region.wanted]; done)) ?_ rfl ?_
      · intro wq hq hfq
        have f1 := hfq 1 (by kernel_rfl)
        have f2 := hfq 2 (by kernel_rfl)
        simp only [upd, Nat.beq, cond] at f1 f2
        clear hfq
        obtain ⟨m1', he1, k1⟩ := f1
        cases he1
        obtain ⟨m2', he2, k2⟩ := f2
        cases he2
        exact gives_append_full _ _ 22 rfl 3 i0 (.int .i64 0) 1 8 Try.underlying22 hi hz0 hz1 hz2 m1 m2 300 300 1 1 _ _ rfl rfl k1 (by simp) k2 (by simp) (by omega) (by simp [maxLen]) (by omega) 301 rfl
      rintro x3 ⟨_, ⟨m3, n3, rfl, -⟩⟩
      simp only [Act.put, List.setIfInBounds_toArray, List.set_cons_succ, List.set_cons_zero]
      refine wpSpec_at [] (VErr3 4) rfl (by first | rfl | (simp [viewS, Act.eval]; done)) rfl (by first | rfl | (simp [Region.wanted]; done)) ?_ rfl ?_
      · intro wq hq hfq
        have f0 := hfq 0 (by kernel_rfl)
        have f3 := hfq 3 (by kernel_rfl)
        simp only [upd, Nat.beq, cond] at f0 f3
        clear hfq
        obtain ⟨g1', g2', g3', g4', he0, k0, kk0⟩ := f0
        cases he0
        obtain ⟨m3', n3', he3, k3⟩ := f3
        cases he3
        refine gives_call 19 _ _ #[.agg #[.slice g1 3 g2, .slice g3 3 g4], .slice m3 301 n3] rfl (by kernel_rfl) (by simp [Act.eval]) ((run_r [2, 1, 1] [-1, -1, 0] (List.replicate 300 0 ++ [9]) [] [] [] 4 3 3 301 0 0 0 g1 g3 m3 g2 g4 n3 wq rfl rfl (by simp) rfl rfl rfl k0 kk0 (by rw [List.map_append]; exact k3) (by decide) (by decide +kernel)).mono ?_)
        rintro e w' ⟨⟨q1, q2, q3, q4, q5, q6, rfl, _, _, _⟩, hb⟩
        exact ⟨_, rfl, hb, _, _, _, _, _, _, rfl⟩
      rintro x4 ⟨_, ⟨p5, p6, p7, p8, p9, p10, rfl⟩⟩
      simp only [Act.put, List.setIfInBounds_toArray, List.set_cons_succ, List.set_cons_zero]
      refine wpSpec_quiet 4 (by kernel_rfl) (by kernel_rfl) ?_
      simp only [List.take_succ_cons, List.take_zero, List.drop_succ_cons, List.drop_zero]
      repeat (go_big_quiet_step (fail))
      refine wpQuiet_nil ?_
      show wpSpec _ _ _ _ _ _ _ _ _ _ _
      refine wpSpec_at [] (VBlk w15.heap.size 24 [.slice none 0 0, .slice none 0 0]) rfl (by first | rfl | (simp [viewS, Act.eval]; done)) rfl (by first | rfl | (simp [Region.wanted]; done)) ?_ rfl ?_
      · intro wq hq hfq
        clear hfq
        unfold Oper.gives; go_simp; exact ⟨(Below.refl _ _).alloc (Nat.le_refl _) _, _, rfl, hq.size, Blk.newA _ _ _ _ _ rfl rfl⟩
      rintro x9 ⟨_, ⟨b9, rfl, hb9, -⟩⟩
      simp only [Act.put, List.setIfInBounds_toArray, List.set_cons_succ, List.set_cons_zero]
      refine wpSpec_atD [.pointer (some ⟨b9, 0, none⟩)] (VAny) rfl (by first | rfl | (simp [viewS, Act.eval]; done)) rfl (by first | rfl | (simp [Region.wanted]; done)) ?_ rfl ?_
      · intro wq hq hfq
        have f9 := hfq 9 (by kernel_rfl)
        simp only [upd, Nat.beq, cond] at f9
        clear hfq
        obtain ⟨b9', he9, hb9l, hB9⟩ := f9
        cases he9
        refine gives_store_blk 24 _ _ rfl b9 rfl 24 _ [.slice p5 0 p6, .slice p7 0 p8] rfl hB9 rfl infoT (by intro v hv; simp only [List.mem_cons, List.not_mem_nil, or_false] at hv; rcases hv with rfl | rfl <;> rfl) fun hS => ?_
        exact ⟨below_setCells hb9l _ _ _ (Below.refl _ _), trivial⟩
      rintro x10 -
      simp only [Act.put, List.setIfInBounds_toArray, List.set_cons_succ, List.set_cons_zero]
      refine wpSpec_quiet 2 (by kernel_rfl) (by kernel_rfl) ?_
      simp only [List.take_succ_cons, List.take_zero, List.drop_succ_cons, List.drop_zero]
      repeat (go_big_quiet_step (fail))
      refine wpQuiet_nil ?_
      show wpSpec _ _ _ _ _ _ _ _ _ _ _
      intro w16 hc16 hfq
      clear hfq
      have hb16 : Below w.heap.size w w16 := bchain (by repeat' (first | with_reducible exact hb15 | with_reducible refine Below.drew ?_ | with_reducible refine below_drewN ?_ _ | with_reducible refine Below.alloc ?_ (by have := hb15.size; first | (simp; done) | (simp; omega) | omega) _ | with_reducible refine Below.setCell ?_ (by first | (simp; done) | (simp; omega) | omega) _)) hc16
      go_wp2_with fail
      refine (given_any _).mono ?_
      rintro e w17 ⟨sl, sc, sa, sd, rfl, sk, sm, hc17⟩
      have hb17 : Below w.heap.size w w17 := bchain (by repeat' (first | with_reducible exact hb16 | with_reducible refine Below.drew ?_ | with_reducible refine below_drewN ?_ _ | with_reducible refine Below.alloc ?_ (by have := hb16.size; first | (simp; done) | (simp; omega) | omega) _ | with_reducible refine Below.setCell ?_ (by first | (simp; done) | (simp; omega) | omega) _)) hc17
      clear hc17 hb16
      go_wp2_with fail
      refine (run_r [2, 1, 1] [-1, -1, 0] [0, 3] [] [] [] 2 3 3 2 0 0 0 sl sa _ sc sd 2 _ rfl rfl rfl rfl rfl rfl ((sk).alloc _) ((sm).alloc _) (cellsAt_lit w17 [.int .i64 0, .int .i64 3] 3) (by decide) (by decide +kernel)).mono ?_
      rintro e w18 ⟨⟨r5, e5, r6, e6, r7, e7, rfl, _, _, _⟩, hc18⟩
      have hb18 : Below w.heap.size w w18 := bchain (by repeat' (first | with_reducible exact hb17 | with_reducible refine Below.drew ?_ | with_reducible refine below_drewN ?_ _ | with_reducible refine Below.alloc ?_ (by have := hb17.size; first | (simp; done) | (simp; omega) | omega) _ | with_reducible refine Below.setCell ?_ (by first | (simp; done) | (simp; omega) | omega) _)) hc18
      clear hc18 hb17
      go_wp2_with fail
      refine (given_any _).mono ?_
      rintro e w19 ⟨tl, tc, ta, td, rfl, tk, tm, hc19⟩
      have hb19 : Below w.heap.size w w19 := bchain (by repeat' (first | with_reducible exact hb18 | with_reducible refine Below.drew ?_ | with_reducible refine below_drewN ?_ _ | with_reducible refine Below.alloc ?_ (by have := hb18.size; first | (simp; done) | (simp; omega) | omega) _ | with_reducible refine Below.setCell ?_ (by first | (simp; done) | (simp; omega) | omega) _)) hc19
      clear hc19 hb18
      go_wp2_with fail
      refine (rounds_r [2, 1, 1] [-1, -1, 0] [] 2 (-1) 3 3 0 tl ta tc td _ rfl rfl rfl (by repeat' (first | with_reducible exact tk | with_reducible refine CellsAt.setFar ?_ ?_ _ | with_reducible refine CellsAt.alloc ?_ _ | with_reducible refine CellsAt.drew ?_ | with_reducible refine CellsAt.drewN ?_ _ | assumption | (simp; omega) | omega)) (by repeat' (first | with_reducible exact tm | with_reducible refine CellsAt.setFar ?_ ?_ _ | with_reducible refine CellsAt.alloc ?_ _ | with_reducible refine CellsAt.drew ?_ | with_reducible refine CellsAt.drewN ?_ _ | assumption | (simp; omega) | omega)) (by decide) (by decide +kernel)).mono ?_
      rintro e w20 ⟨⟨r8, e8, rfl, _⟩, hc20⟩
      have hb20 : Below w.heap.size w w20 := bchain (by repeat' (first | with_reducible exact hb19 | with_reducible refine Below.drew ?_ | with_reducible refine below_drewN ?_ _ | with_reducible refine Below.alloc ?_ (by have := hb19.size; first | (simp; done) | (simp; omega) | omega) _ | with_reducible refine Below.setCell ?_ (by first | (simp; done) | (simp; omega) | omega) _)) hc20
      clear hc20 hb19
      go_wp2_with fail
      refine (given_any _).mono ?_
      rintro e w21 ⟨ul, uc, ua, ud, rfl, uk, um, hc21⟩
      have hb21 : Below w.heap.size w w21 := bchain (by repeat' (first | with_reducible exact hb20 | with_reducible refine Below.drew ?_ | with_reducible refine below_drewN ?_ _ | with_reducible refine Below.alloc ?_ (by have := hb20.size; first | (simp; done) | (simp; omega) | omega) _ | with_reducible refine Below.setCell ?_ (by first | (simp; done) | (simp; omega) | omega) _)) hc21
      clear hc21 hb20
      go_wp2_with fail
      refine (rounds_r [2, 1, 1] [-1, -1, 0] [] 2 301 3 3 0 ul ua uc ud _ rfl rfl rfl (by repeat' (first | with_reducible exact uk | with_reducible refine CellsAt.setFar ?_ ?_ _ | with_reducible refine CellsAt.alloc ?_ _ | with_reducible refine CellsAt.drew ?_ | with_reducible refine CellsAt.drewN ?_ _ | assumption | (simp; omega) | omega)) (by repeat' (first | with_reducible exact um | with_reducible refine CellsAt.setFar ?_ ?_ _ | with_reducible refine CellsAt.alloc ?_ _ | with_reducible refine CellsAt.drew ?_ | with_reducible refine CellsAt.drewN ?_ _ | assumption | (simp; omega) | omega)) (by decide) (by decide +kernel)).mono ?_
      rintro e w22 ⟨⟨r9, e9, rfl, _⟩, hc22⟩
      have hb22 : Below w.heap.size w w22 := bchain (by repeat' (first | with_reducible exact hb21 | with_reducible refine Below.drew ?_ | with_reducible refine below_drewN ?_ _ | with_reducible refine Below.alloc ?_ (by have := hb21.size; first | (simp; done) | (simp; omega) | omega) _ | with_reducible refine Below.setCell ?_ (by first | (simp; done) | (simp; omega) | omega) _)) hc22
      clear hc22 hb21
      go_wp2_with fail
      refine (given_any _).mono ?_
      rintro e w23 ⟨vl, vc, va, vd, rfl, vk, vm, hc23⟩
      have hb23 : Below w.heap.size w w23 := bchain (by repeat' (first | with_reducible exact hb22 | with_reducible refine Below.drew ?_ | with_reducible refine below_drewN ?_ _ | with_reducible refine Below.alloc ?_ (by have := hb22.size; first | (simp; done) | (simp; omega) | omega) _ | with_reducible refine Below.setCell ?_ (by first | (simp; done) | (simp; omega) | omega) _)) hc23
      clear hc23 hb22
      go_wp2_with fail
      refine (fair_r [2, 1, 1] [-1, -1, 0] [3] 0 2 false 3 3 1 vl va _ vc vd 1 _ rfl rfl rfl ((vk).alloc _) ((vm).alloc _) (cellsAt_lit w23 [.int .i64 3] 3) (by decide) (by decide +kernel)).mono ?_
      rintro e w24 ⟨rfl, hc24⟩
      have hb24 : Below w.heap.size w w24 := bchain (by repeat' (first | with_reducible exact hb23 | with_reducible refine Below.drew ?_ | with_reducible refine below_drewN ?_ _ | with_reducible refine Below.alloc ?_ (by have := hb23.size; first | (simp; done) | (simp; omega) | omega) _ | with_reducible refine Below.setCell ?_ (by first | (simp; done) | (simp; omega) | omega) _)) hc24
      clear hc24 hb23
      go_wp2_with fail
      refine (given_any _).mono ?_
      rintro e w25 ⟨xl, xc, xa, xd, rfl, xk, xm, hc25⟩
      have hb25 : Below w.heap.size w w25 := bchain (by repeat' (first | with_reducible exact hb24 | with_reducible refine Below.drew ?_ | with_reducible refine below_drewN ?_ _ | with_reducible refine Below.alloc ?_ (by have := hb24.size; first | (simp; done) | (simp; omega) | omega) _ | with_reducible refine Below.setCell ?_ (by first | (simp; done) | (simp; omega) | omega) _)) hc25
      clear hc25 hb24
      go_wp2_with fail
      refine (fair_r [2, 1, 1] [-1, -1, 0] [] 0 2 false 3 3 0 xl xa _ xc xd 0 _ rfl rfl rfl (by repeat' (first | with_reducible exact xk | with_reducible refine CellsAt.setFar ?_ ?_ _ | with_reducible refine CellsAt.alloc ?_ _ | with_reducible refine CellsAt.drew ?_ | with_reducible refine CellsAt.drewN ?_ _ | assumption | (simp; omega) | omega)) (by repeat' (first | with_reducible exact xm | with_reducible refine CellsAt.setFar ?_ ?_ _ | with_reducible refine CellsAt.alloc ?_ _ | with_reducible refine CellsAt.drew ?_ | with_reducible refine CellsAt.drewN ?_ _ | assumption | (simp; omega) | omega)) (.inl rfl) (by decide) (by decide +kernel)).mono ?_
      rintro e w26 ⟨rfl, hc26⟩
      have hb26 : Below w.heap.size w w26 := bchain (by repeat' (first | with_reducible exact hb25 | with_reducible refine Below.drew ?_ | with_reducible refine below_drewN ?_ _ | with_reducible refine Below.alloc ?_ (by have := hb25.size; first | (simp; done) | (simp; omega) | omega) _ | with_reducible refine Below.setCell ?_ (by first | (simp; done) | (simp; omega) | omega) _)) hc26
      clear hc26 hb25
      go_wp2_with fail
      refine (given_any _).mono ?_
      rintro e w27 ⟨yl, yc, ya, yd, rfl, yk, ym, hc27⟩
      have hb27 : Below w.heap.size w w27 := bchain (by repeat' (first | with_reducible exact hb26 | with_reducible refine Below.drew ?_ | with_reducible refine below_drewN ?_ _ | with_reducible refine Below.alloc ?_ (by have := hb26.size; first | (simp; done) | (simp; omega) | omega) _ | with_reducible refine Below.setCell ?_ (by first | (simp; done) | (simp; omega) | omega) _)) hc27
      clear hc27 hb26
      go_wp2_with fail
      refine (fair_r [2, 1, 1] [-1, -1, 0] [] 1 0 true 3 3 0 yl ya _ yc yd 0 _ rfl rfl rfl (by repeat' (first | with_reducible exact yk | with_reducible refine CellsAt.setFar ?_ ?_ _ | with_reducible refine CellsAt.alloc ?_ _ | with_reducible refine CellsAt.drew ?_ | with_reducible refine CellsAt.drewN ?_ _ | assumption | (simp; omega) | omega)) (by repeat' (first | with_reducible exact ym | with_reducible refine CellsAt.setFar ?_ ?_ _ | with_reducible refine CellsAt.alloc ?_ _ | with_reducible refine CellsAt.drew ?_ | with_reducible refine CellsAt.drewN ?_ _ | assumption | (simp; omega) | omega)) (.inl rfl) (by decide) (by decide +kernel)).mono ?_
      rintro e w28 ⟨rfl, hc28⟩
      have hb28 : Below w.heap.size w w28 := bchain (by repeat' (first | with_reducible exact hb27 | with_reducible refine Below.drew ?_ | with_reducible refine below_drewN ?_ _ | with_reducible refine Below.alloc ?_ (by have := hb27.size; first | (simp; done) | (simp; omega) | omega) _ | with_reducible refine Below.setCell ?_ (by first | (simp; done) | (simp; omega) | omega) _)) hc28
      clear hc28 hb27
      go_wp2_with fail
      refine (given_any _).mono ?_
      rintro e w29 ⟨zl, zc, za, zd, rfl, zk, zm, hc29⟩
      have hb29 : Below w.heap.size w w29 := bchain (by repeat' (first | with_reducible exact hb28 | with_reducible refine Below.drew ?_ | with_reducible refine below_drewN ?_ _ | with_reducible refine Below.alloc ?_ (by have := hb28.size; first | (simp; done) | (simp; omega) | omega) _ | with_reducible refine Below.setCell ?_ (by first | (simp; done) | (simp; omega) | omega) _)) hc29
      clear hc29 hb28
      go_wp2_with fail
      refine (rounds_r [2, 1, 1] [-1, -1, 0] [0, 1, 0, 2] 0 300 3 3 4 zl za zc zd _ rfl rfl rfl (by repeat' (first | with_reducible exact zk | with_reducible refine CellsAt.setFar ?_ ?_ _ | with_reducible refine CellsAt.alloc ?_ _ | with_reducible refine CellsAt.drew ?_ | with_reducible refine CellsAt.drewN ?_ _ | assumption | (simp; omega) | omega)) (by repeat' (first | with_reducible exact zm | with_reducible refine CellsAt.setFar ?_ ?_ _ | with_reducible refine CellsAt.alloc ?_ _ | with_reducible refine CellsAt.drew ?_ | with_reducible refine CellsAt.drewN ?_ _ | assumption | (simp; omega) | omega)) (by decide) (by decide +kernel)).mono ?_
      rintro e w30 ⟨⟨r10, e10, rfl, _⟩, hc30⟩
      have hb30 : Below w.heap.size w w30 := bchain (by repeat' (first | with_reducible exact hb29 | with_reducible refine Below.drew ?_ | with_reducible refine below_drewN ?_ _ | with_reducible refine Below.alloc ?_ (by have := hb29.size; first | (simp; done) | (simp; omega) | omega) _ | with_reducible refine Below.setCell ?_ (by first | (simp; done) | (simp; omega) | omega) _)) hc30
      clear hc30 hb29
      go_wp2_with fail
      refine (given_any _).mono ?_
      rintro e w31 ⟨ol, oc, oa, od, rfl, ok, om, hc31⟩
      have hb31 : Below w.heap.size w w31 := bchain (by repeat' (first | with_reducible exact hb30 | with_reducible refine Below.drew ?_ | with_reducible refine below_drewN ?_ _ | with_reducible refine Below.alloc ?_ (by have := hb30.size; first | (simp; done) | (simp; omega) | omega) _ | with_reducible refine Below.setCell ?_ (by first | (simp; done) | (simp; omega) | omega) _)) hc31
      clear hc31 hb30
      go_wp2_with fail
      refine (pick_r [2, 1, 1] [-1, -1, 0] 2 [2, 1, 1] [-1, -1, 0] [] 0 3 3 3 3 ol oa oc od _ rfl rfl rfl rfl (by repeat' (first | with_reducible exact ok | with_reducible refine CellsAt.setFar ?_ ?_ _ | with_reducible refine CellsAt.alloc ?_ _ | with_reducible refine CellsAt.drew ?_ | with_reducible refine CellsAt.drewN ?_ _ | assumption | (simp; omega) | omega)) (by repeat' (first | with_reducible exact om | with_reducible refine CellsAt.setFar ?_ ?_ _ | with_reducible refine CellsAt.alloc ?_ _ | with_reducible refine CellsAt.drew ?_ | with_reducible refine CellsAt.drewN ?_ _ | assumption | (simp; omega) | omega)) (by decide) (by decide +kernel)).mono ?_
      rintro e w32 ⟨⟨b1, c1, b2, c2, rfl, kb1, kb2⟩, hc32⟩
      have hb32 : Below w.heap.size w w32 := bchain (by repeat' (first | with_reducible exact hb31 | with_reducible refine Below.drew ?_ | with_reducible refine below_drewN ?_ _ | with_reducible refine Below.alloc ?_ (by have := hb31.size; first | (simp; done) | (simp; omega) | omega) _ | with_reducible refine Below.setCell ?_ (by first | (simp; done) | (simp; omega) | omega) _)) hc32
      clear hc32 hb31
      go_wp2_with fail
      refine wp_gen fun w33 hc33 => ?_
      have hb33 : Below w.heap.size w w33 := bchain (by repeat' (first | with_reducible exact hb32 | with_reducible refine Below.drew ?_ | with_reducible refine below_drewN ?_ _ | with_reducible refine Below.alloc ?_ (by have := hb32.size; first | (simp; done) | (simp; omega) | omega) _ | with_reducible refine Below.setCell ?_ (by first | (simp; done) | (simp; omega) | omega) _)) hc33
      have hst33 : Below w32.heap.size w32 w33 := bchain (by repeat' (first | with_reducible exact Below.refl _ _ | with_reducible refine Below.drew ?_ | with_reducible refine below_drewN ?_ _ | with_reducible refine Below.alloc ?_ (by first | (simp; done) | (simp; omega) | omega) _ | with_reducible refine Below.setCell ?_ (by first | (simp; done) | (simp; omega) | omega) _)) hc33
      have T_0 : w33.cell? ⟨w32.heap.size, 0, none⟩ = some (.slice b1 3 c1) := (hc33.cell (p := ⟨w32.heap.size, 0, none⟩) (by first | (simp; done) | (simp; omega))).trans (by first | (simp; done) | go_simp)
      have T_1 : w33.cell? ⟨w32.heap.size, 1, none⟩ = some (.slice b2 3 c2) := (hc33.cell (p := ⟨w32.heap.size, 1, none⟩) (by first | (simp; done) | (simp; omega))).trans (by first | (simp; done) | go_simp)
      have T_l : w32.heap.size < w33.heap.size := Nat.lt_of_lt_of_le (by first | (simp; done) | (simp; omega)) hc33.size
      replace kb1 := kb1.later hst33
      replace kb2 := kb2.later hst33
      clear hst33
      have KT_0 := cell_on T_0
      have KT_1 := cell_on T_1
      simp only [List.append]
      refine wp_region_on_spec_tail [(1, [], fun _ => VIs (.bool true)), (61, [], fun _ => VGiven), (62, [], fun _ => VIs (.bool true))] [1, 61, 62] [] [(1, []), (61, []), (62, [])] 63 (by kernel_rfl) (by kernel_rfl) rfl (by kernel_rfl) rfl (by kernel_rfl) ⟨fun _ => VIs.last, fun _ => VGiven.last, fun _ => VIs.last, trivial⟩ ?_
      try simp only [List.take_succ_cons, List.take_zero, List.drop_succ_cons, List.drop_zero]
      refine wpSpec_quiet 1 (by kernel_rfl) (by kernel_rfl) ?_
      simp only [List.take_succ_cons, List.take_zero, List.drop_succ_cons, List.drop_zero]
      repeat (go_big_quiet_step (fail))
      refine wpQuiet_nil ?_
      show wpSpec _ _ _ _ _ _ _ _ _ _ _
      refine wpSpec_at [] (VIs (.bool true)) rfl (by first | rfl | (simp [viewS, Act.eval]; done)) rfl (by first | rfl | (simp [Region.wanted]; done)) ?_ rfl ?_
      · intro wq hq hfq
        clear hfq
        refine gives_call 27 _ _ #[] rfl (by kernel_rfl) (by simp) ((alive_any _).mono ?_)
        rintro e w' ⟨rfl, hb⟩
        exact ⟨_, rfl, hb, rfl⟩
      rintro x1 ⟨_, ⟨_, rfl⟩⟩
      simp only [Act.put, List.setIfInBounds_toArray, List.set_cons_succ, List.set_cons_zero]
      refine wpSpec_quiet 59 (by kernel_rfl) (by kernel_rfl) ?_
      simp only [List.take_succ_cons, List.take_zero, List.drop_succ_cons, List.drop_zero]
      repeat (go_big_quiet_step (fail))
      refine wpQuiet_nil ?_
      show wpSpec _ _ _ _ _ _ _ _ _ _ _
      refine wpSpec_at [] (VGiven) rfl (by first | rfl | (simp [viewS, Act.eval]; done)) rfl (by first | rfl | (simp [Region.wanted]; done)) ?_ rfl ?_
      · intro wq hq hfq
        clear hfq
        refine gives_call 32 _ _ #[] rfl (by kernel_rfl) (by simp) ((given_any _).mono ?_)
        rintro e w' ⟨g1, g2, g3, g4, rfl, k1, k2, hb⟩
        exact ⟨_, rfl, hb, _, _, _, _, rfl, k1, k2⟩
      rintro x61 ⟨_, ⟨g5, g6, g7, g8, rfl, -⟩⟩
      simp only [Act.put, List.setIfInBounds_toArray, List.set_cons_succ, List.set_cons_zero]
      refine wpSpec_at [] (VIs (.bool true)) rfl (by first | rfl | (simp [viewS, Act.eval]; done)) rfl (by first | rfl | (simp [Region.wanted]; done)) ?_ rfl ?_
      · intro wq hq hfq
        have f61 := hfq 61 (by kernel_rfl)
        simp only [upd, Nat.beq, cond] at f61
        clear hfq
        obtain ⟨g5', g6', g7', g8', he61, k61, kk61⟩ := f61
        cases he61
        refine gives_call 17 _ _ #[.agg #[.slice b1 3 c1, .slice b2 3 c2], .agg #[.slice g5 3 g6, .slice g7 3 g8]] rfl (by kernel_rfl) (by simp [Act.eval]) ((same_n 3 3 [2, 1, 1] [-1, -1, 0] b1 b2 g5 g7 c1 c2 g6 g8 wq rfl rfl (kb1.later hq) (kb2.later hq) k61 kk61 (by decide) (by decide)).mono ?_)
        rintro e w' ⟨rfl, hb⟩
        exact ⟨_, rfl, hb, rfl⟩
      rintro x62 ⟨_, ⟨_, rfl⟩⟩
      simp only [Act.put, List.setIfInBounds_toArray, List.set_cons_succ, List.set_cons_zero]
      intro w34 hc34 hfq
      clear hfq
      clear KT_0 KT_1
      have hb34 : Below w.heap.size w w34 := bchain (by repeat' (first | with_reducible exact hb33 | with_reducible refine Below.drew ?_ | with_reducible refine below_drewN ?_ _ | with_reducible refine Below.alloc ?_ (by have := hb33.size; first | (simp; done) | (simp; omega) | omega) _ | with_reducible refine Below.setCell ?_ (by first | (simp; done) | (simp; omega) | omega) _)) hc34
      have hst34 : Below w33.heap.size w33 w34 := bchain (by repeat' (first | with_reducible exact Below.refl _ _ | with_reducible refine Below.drew ?_ | with_reducible refine below_drewN ?_ _ | with_reducible refine Below.alloc ?_ (by first | (simp; done) | (simp; omega) | omega) _ | with_reducible refine Below.setCell ?_ (by first | (simp; done) | (simp; omega) | omega) _)) hc34
      replace T_0 := cell_later hst34 T_0
      replace T_1 := cell_later hst34 T_1
      replace T_l := Nat.lt_of_lt_of_le T_l hst34.size
      replace kb1 := kb1.later hst34
      replace kb2 := kb2.later hst34
      clear hst34
      go_wp2_with fail
      go_ret
      exact ⟨rfl, by repeat' (first | with_reducible exact hb34 | with_reducible refine Below.drew ?_ | with_reducible refine below_drewN ?_ _ | with_reducible refine Below.alloc ?_ (by have := hb34.size; first | (simp; done) | (simp; omega) | omega) _ | with_reducible refine Below.setCell ?_ (by first | (simp; done) | (simp; omega) | omega) _)⟩

end Go.Proofs.Ytoelndaeemlefaa
