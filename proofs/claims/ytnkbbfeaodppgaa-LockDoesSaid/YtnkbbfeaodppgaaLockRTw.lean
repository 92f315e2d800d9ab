/- The reference's Twin, its rows the call's own. -/
import Derived.Test.YtnkbbfeaodppgaaLockAloneW
namespace Go.Proofs.Ytnkbbfeaodppgaa
set_option linter.unusedSimpArgs false
set_option linter.unusedVariables false
set_option linter.unnecessarySimpa false
open Go.RowKit

/-- An empty slice without room, of a block of its own. -/
def VNil (B : Nat) (e : TypeId) (size : Nat) : Value → World → Prop := fun v w => ∃ ao, v = .slice ao 0 0 ∧ OwnX w B e size (.slice ao 0 0) 0 []
theorem VNil.last {B : Nat} {e : TypeId} {size : Nat} (v : Value) (w w' : World) (h : VNil B e size v w) (hb : Below w.heap.size w w') : VNil B e size v w' :=
  let ⟨a, hv, hc⟩ := h
  ⟨a, hv, hc.later hb⟩
section
variable {P : Program}
theorem gives_append_n0 {o : Oper} {a : Act} {w : World} (s x : Operand) (t : TypeId) (ho : o.op = .call { callee := .builtin .append, args := #[s, x], argTypes := #[t, t] }) (v u : Value) (hs : a.eval s = v) (hx : a.eval x = u)
    (base : Nat) (e : TypeId) (i : TypeInfo) (z : Value) (size bytes : Nat) (ht : P.underlying t = some (.slice e)) (hi : P.info? e = some i) (hz : i.zero = some z)
    (hsize : i.size = size) (hby : i.bytes = bytes) (hzs : z.cells.size = size) (hsz : 0 < size)
    (hv : VNil base e size v w) (m : Nat) (news : List Value) (hu : VRow m news u w) (hl : news.length = m * size) (h1 : ∀ u ∈ news, u.oneCell' = true)
    (h63 : m ≤ maxLen) (hbytes : m * bytes ≤ 140737488355328) (hbase : base ≤ w.heap.size) :
    Oper.gives P o a w (fun r w' => Below w.heap.size w w' ∧ VOwn base e size m news r w') := by
  obtain ⟨av, rfl, hov⟩ := hv
  obtain ⟨au, cu, rfl, hn⟩ := hu
  by_cases hm : m = 0
  · subst hm
    obtain rfl : news = [] := List.eq_nil_of_length_eq_zero (by simpa using hl)
    refine gives_append s x t t ho _ _ hs hx ⟨_, w, run_append_zero w t o.type e i ht hi av au 0 0 cu (Nat.le_refl _), Below.refl _ _, _, _, rfl, hov⟩
  · obtain ⟨a', c', w', hr, h2, h3⟩ := run_append_c0 (P := P) w t o.type e i z size bytes ht hi hz hsize hby hzs hsz av au m cu news hl hn h1 h63 hbytes
    exact gives_append s x t t ho _ _ hs hx ⟨_, _, hr, h3, _, _, rfl, (h2 (by omega)).mono hbase⟩
end

set_option maxRecDepth 100000 in
set_option maxHeartbeats 2000000 in
theorem rtwin_own (W : Int) (rs : List Int) (q : Waits) (ra qa : Option Addr) (rn rc qn qc : Nat) (w : World) (h : LockIn w rs q ra qa rn qn) :
    Calls Try.prog 11 #[.agg #[.int .i64 W, .slice ra rn rc, .slice qa qn qc]] w fun e w' =>
      ∃ a1 c1 a2 c2, e = .returned (.agg #[.int .i64 W, .slice a1 rn c1, .slice a2 qn c2]) ∧ LockOwn w' w.heap.size rs q a1 a2 rn c1 qn c2 ∧ Below w.heap.size w w' := by
  obtain ⟨i0, hi, hz0, hz1, hz2⟩ := info_parts info_i64
  obtain ⟨j0, hj, hy0, hy1, hy2⟩ := info_parts info_wait
  have hrm := h.rmax
  have hqm := h.qmax
  have hl1 : (rs.map (Value.int .i64)).length = rn * 1 := by rw [List.length_map, ← h.rlen, Nat.mul_one]
  have hl2 : (celW q).length = qn * 2 := by rw [celW_len, ← h.qlen]
  have H_h := Box.mk h
  have H_hl1 := Box.mk hl1
  have H_hl2 := Box.mk hl2
  clear h hl1 hl2
  go_enter Try.func11, Try.ntmps11
  have hb0 := Below.refl w.heap.size w
  go_wp2_with fail
  refine wp_gen fun w1 hc1 => ?_
  have hb1 : Below w.heap.size w w1 := bchain (by repeat' (first | with_reducible exact hb0 | with_reducible refine Below.drew ?_ | with_reducible refine below_drewN ?_ _ | with_reducible refine Below.alloc ?_ (by have := hb0.size; first | (simp; done) | (simp; omega) | omega) _ | with_reducible refine Below.setCell ?_ (by first | (simp; done) | (simp; omega) | omega) _)) hc1
  have O_0 : w1.cell? ⟨w.heap.size, 0, none⟩ = some (.int .i64 W) := (hc1.cell (p := ⟨w.heap.size, 0, none⟩) (by first | (simp; done) | (simp; omega))).trans (by first | (simp; done) | go_simp)
  have O_1 : w1.cell? ⟨w.heap.size, 1, none⟩ = some (.slice ra rn rc) := (hc1.cell (p := ⟨w.heap.size, 1, none⟩) (by first | (simp; done) | (simp; omega))).trans (by first | (simp; done) | go_simp)
  have O_2 : w1.cell? ⟨w.heap.size, 2, none⟩ = some (.slice qa qn qc) := (hc1.cell (p := ⟨w.heap.size, 2, none⟩) (by first | (simp; done) | (simp; omega))).trans (by first | (simp; done) | go_simp)
  have O_l : w.heap.size < w1.heap.size := Nat.lt_of_lt_of_le (by first | (simp; done) | (simp; omega)) hc1.size
  have R_0 : w1.cell? ⟨w.heap.size + 1, 0, none⟩ = some (.int .i64 0) := (hc1.cell (p := ⟨w.heap.size + 1, 0, none⟩) (by first | (simp; done) | (simp; omega))).trans (by first | (simp; done) | go_simp)
  have R_1 : w1.cell? ⟨w.heap.size + 1, 1, none⟩ = some (.slice none 0 0) := (hc1.cell (p := ⟨w.heap.size + 1, 1, none⟩) (by first | (simp; done) | (simp; omega))).trans (by first | (simp; done) | go_simp)
  have R_2 : w1.cell? ⟨w.heap.size + 1, 2, none⟩ = some (.slice none 0 0) := (hc1.cell (p := ⟨w.heap.size + 1, 2, none⟩) (by first | (simp; done) | (simp; omega))).trans (by first | (simp; done) | go_simp)
  have R_f0 : w1.frozen? ⟨w.heap.size + 1, 0, none⟩ = false := (hc1.frozen (p := ⟨w.heap.size + 1, 0, none⟩) (by first | (simp; done) | (simp; omega))).trans (by first | (simp; done) | go_simp)
  have R_f1 : w1.frozen? ⟨w.heap.size + 1, 1, none⟩ = false := (hc1.frozen (p := ⟨w.heap.size + 1, 1, none⟩) (by first | (simp; done) | (simp; omega))).trans (by first | (simp; done) | go_simp)
  have R_f2 : w1.frozen? ⟨w.heap.size + 1, 2, none⟩ = false := (hc1.frozen (p := ⟨w.heap.size + 1, 2, none⟩) (by first | (simp; done) | (simp; omega))).trans (by first | (simp; done) | go_simp)
  have R_l : w.heap.size + 1 < w1.heap.size := Nat.lt_of_lt_of_le (by first | (simp; done) | (simp; omega)) hc1.size
  have KO_0 := cell_on O_0
  have KO_1 := cell_on O_1
  have KO_2 := cell_on O_2
  have KR_0 := cell_on R_0
  have KR_1 := cell_on R_1
  have KR_2 := cell_on R_2
  have H_h1 := Box.mk (H_h.out.later hb1)
  have zR1 := R_l
  refine wp_region_on_spec_tail [(2, [], fun _ => VNil w1.heap.size 3 1), (5, [], fun _ => VOwn w1.heap.size 3 1 rn (rs.map (Value.int .i64))), (6, [], fun _ => VNil w1.heap.size 34 2), (9, [], fun _ => VOwn w1.heap.size 34 2 qn (celW q))] [2, 5, 6, 9] [] [(2, []), (5, []), (6, []), (9, [])] 11 (by kernel_rfl) (by kernel_rfl) rfl (by kernel_rfl) rfl (by kernel_rfl) ⟨fun _ => VNil.last, fun _ => VOwn.last, fun _ => VNil.last, fun _ => VOwn.last, trivial⟩ ?_
  try simp only [List.take_succ_cons, List.take_zero, List.drop_succ_cons, List.drop_zero]
  refine wpSpec_quiet 2 (by kernel_rfl) (by kernel_rfl) ?_
  simp only [List.take_succ_cons, List.take_zero, List.drop_succ_cons, List.drop_zero]
  repeat (go_big_quiet_step (fail))
  refine wpQuiet_nil ?_
  show wpSpec _ _ _ _ _ _ _ _ _ _ _
  refine wpSpec_at [] (VNil w1.heap.size 3 1) rfl (by first | rfl | (simp [viewS, Act.eval]; done)) rfl (by first | rfl | (simp [Region.wanted]; done)) ?_ rfl ?_
  · intro wq hq hfq
    clear hfq
    unfold Oper.gives; go_simp; exact ⟨(Below.refl _ _).alloc (Nat.le_refl _) _, _, rfl, own_fresh _ _ _ _ _ rfl hq.size⟩
  rintro x2 -
  simp only [Act.put, List.setIfInBounds_toArray, List.set_cons_succ, List.set_cons_zero]
  refine wpSpec_quiet 2 (by kernel_rfl) (by kernel_rfl) ?_
  simp only [List.take_succ_cons, List.take_zero, List.drop_succ_cons, List.drop_zero]
  repeat (go_big_quiet_step (fail))
  refine wpQuiet_nil ?_
  show wpSpec _ _ _ _ _ _ _ _ _ _ _
  refine wpSpec_at [] (VOwn w1.heap.size 3 1 rn (rs.map (Value.int .i64))) rfl (by first | rfl | (simp [viewS, Act.eval]; done)) rfl (by first | rfl | (simp [Region.wanted]; done)) ?_ rfl ?_
  · intro wq hq hfq
    have f2 := hfq 2 (by kernel_rfl)
    simp only [upd, Nat.beq, cond] at f2
    clear hfq
    exact gives_append_n0 _ _ _ rfl x2 (.slice ra rn rc) rfl rfl _ _ i0 (.int .i64 0) 1 8 Try.underlying22 hi hz0 hz1 hz2 rfl (by decide) f2 rn _ ⟨_, _, rfl, (H_h1.out.later hq).rs⟩ H_hl1.out (ints_oneCell _ _) (by unfold maxLen; omega) (by omega) hq.size
  rintro x5 ⟨_, ⟨a5, c5, rfl, _⟩⟩
  simp only [Act.put, List.setIfInBounds_toArray, List.set_cons_succ, List.set_cons_zero]
  refine wpSpec_at [] (VNil w1.heap.size 34 2) rfl (by first | rfl | (simp [viewS, Act.eval]; done)) rfl (by first | rfl | (simp [Region.wanted]; done)) ?_ rfl ?_
  · intro wq hq hfq
    clear hfq
    unfold Oper.gives; go_simp; exact ⟨(Below.refl _ _).alloc (Nat.le_refl _) _, _, rfl, own_fresh _ _ _ _ _ rfl hq.size⟩
  rintro x6 -
  simp only [Act.put, List.setIfInBounds_toArray, List.set_cons_succ, List.set_cons_zero]
  refine wpSpec_quiet 2 (by kernel_rfl) (by kernel_rfl) ?_
  simp only [List.take_succ_cons, List.take_zero, List.drop_succ_cons, List.drop_zero]
  repeat (go_big_quiet_step (fail))
  refine wpQuiet_nil ?_
  show wpSpec _ _ _ _ _ _ _ _ _ _ _
  refine wpSpec_at [] (VOwn w1.heap.size 34 2 qn (celW q)) rfl (by first | rfl | (simp [viewS, Act.eval]; done)) rfl (by first | rfl | (simp [Region.wanted]; done)) ?_ rfl ?_
  · intro wq hq hfq
    have f6 := hfq 6 (by kernel_rfl)
    simp only [upd, Nat.beq, cond] at f6
    clear hfq
    exact gives_append_n0 _ _ _ rfl x6 (.slice qa qn qc) rfl rfl _ _ j0 (.agg #[.int .i64 0, .bool false]) 2 16 Try.underlying23 hj hy0 hy1 hy2 rfl (by decide) f6 qn _ ⟨_, _, rfl, (H_h1.out.later hq).qs⟩ H_hl2.out (celW_one _) (by unfold maxLen; omega) (by omega) hq.size
  rintro x9 ⟨_, ⟨a9, c9, rfl, _⟩⟩
  simp only [Act.put, List.setIfInBounds_toArray, List.set_cons_succ, List.set_cons_zero]
  refine wpSpec_quiet 1 (by kernel_rfl) (by kernel_rfl) ?_
  simp only [List.take_succ_cons, List.take_zero, List.drop_succ_cons, List.drop_zero]
  repeat (go_big_quiet_step (fail))
  refine wpQuiet_nil ?_
  show wpSpec _ _ _ _ _ _ _ _ _ _ _
  intro w2 hc2 hfq
  have f5 := hfq 5
  have f9 := hfq 9
  simp only [upd, Nat.beq, cond] at f5 f9
  clear hfq
  clear KO_0 KO_1 KO_2 KR_0 KR_1 KR_2
  have hb2 : Below w.heap.size w w2 := bchain (by repeat' (first | with_reducible exact hb1 | with_reducible refine Below.drew ?_ | with_reducible refine below_drewN ?_ _ | with_reducible refine Below.alloc ?_ (by have := hb1.size; first | (simp; done) | (simp; omega) | omega) _ | with_reducible refine Below.setCell ?_ (by first | (simp; done) | (simp; omega) | omega) _)) hc2
  have hst2 : Below w1.heap.size w1 w2 := bchain (by repeat' (first | with_reducible exact Below.refl _ _ | with_reducible refine Below.drew ?_ | with_reducible refine below_drewN ?_ _ | with_reducible refine Below.alloc ?_ (by first | (simp; done) | (simp; omega) | omega) _ | with_reducible refine Below.setCell ?_ (by first | (simp; done) | (simp; omega) | omega) _)) hc2
  replace O_0 := cell_later hst2 O_0
  replace O_1 := cell_later hst2 O_1
  replace O_2 := cell_later hst2 O_2
  replace O_l := Nat.lt_of_lt_of_le O_l hst2.size
  replace R_0 := cell_later hst2 R_0
  replace R_1 := cell_later hst2 R_1
  replace R_2 := cell_later hst2 R_2
  replace R_f0 := frozen_later hst2 R_l R_f0
  replace R_f1 := frozen_later hst2 R_l R_f1
  replace R_f2 := frozen_later hst2 R_l R_f2
  replace R_l := Nat.lt_of_lt_of_le R_l hst2.size
  clear hst2
  obtain ⟨a5', c5', e5, k5⟩ := f5
  cases e5
  obtain ⟨a9', c9', e9, k9⟩ := f9
  cases e9
  go_wp2_with fail
  refine bodyPost_ret (v := .agg #[.int .i64 W, .slice a5 rn c5, .slice a9 qn c9]) (by simp [results, Try.results11, go_sem, *]) rfl ⟨a5, c5, a9, c9, rfl, ⟨H_h.out.rlen, H_h.out.qlen, ?_, ?_⟩, ?_⟩
  · exact ((((k5.setCell (by simp; omega) _).setCell (by simp; omega) _).setCell (by simp; omega) _)).mono (by omega)
  · exact ((((k9.setCell (by simp; omega) _).setCell (by simp; omega) _).setCell (by simp; omega) _)).mono (by omega)
  · exact (by repeat' (first | with_reducible exact hb2 | with_reducible refine Below.drew ?_ | with_reducible refine below_drewN ?_ _ | with_reducible refine Below.alloc ?_ (by have := hb2.size; first | (simp; done) | (simp; omega) | omega) _ | with_reducible refine Below.setCell ?_ (by first | (simp; done) | (simp; omega) | omega) _))

end Go.Proofs.Ytnkbbfeaodppgaa
