/- The exported End, of the program and of the reference. -/
import Derived.Test.YtlilodfddojlhaaDoorDigEnd
import Derived.Test.YtlilodfddojlhaaDoorRegSpec
namespace Go.Proofs.YtlilodfddojlhaaDoor
set_option linter.unusedSimpArgs false
set_option linter.unusedVariables false
set_option linter.unnecessarySimpa false
open Go.RowKit

section
variable {P : Program}
theorem results_blk2 {fn : Func} {p q : Tmp} {ty : TypeId} (h : fn.results = #[.cell p ty, .tmp q]) (tmps : Array Value) (w : World) (B : Nat) (t : TypeId) (cs : List Value) (d : TypeDesc) (u : Value)
    (hp : tmps.getD p undef = .pointer (some ⟨B, 0, none⟩)) (hq : tmps.getD q undef = u) (hg : Blk w B t cs)
    (hu : P.underlying ty = some d) (hd : (match d with | .struct _ | .array _ _ => true | _ => false) = true) (hi : (P.info? ty).map (·.size) = some cs.length) :
    (results fn tmps).run P w = .ok (.tuple #[.agg cs.toArray, u]) w := by
  have hp' : tmps[p]?.getD undef = .pointer (some ⟨B, 0, none⟩) := by simpa using hp
  have hq' : tmps[q]?.getD undef = u := by simpa using hq
  simp [results, h, hp', hq', asAddr, run_loadVar_row w B t ty cs.toArray (0, 0) d hg hu hd (by simpa using hi)]
end
/-- What End returns: the id, the error. -/
def endM (hs rs : List Int) (N : Int) : List Int × Int := if vdB N rs.length = false then (List.replicate 32 0, 8) else (endL hs rs N.toNat, 0)
/-- Such a result. -/
def idE (r : List Int × Int) : Ending := .returned (.tuple #[.agg (r.1.map (Value.int .u8)).toArray, .int .i64 r.2])

theorem idE_mk (l : List Int) (er : Int) : idE (l, er) = .returned (.tuple #[.agg (l.map (Value.int .u8)).toArray, .int .i64 er]) := rfl

set_option maxRecDepth 100000 in
set_option maxHeartbeats 4000000 in
theorem rend_ok (v : V8) (rs : List Int) (N : Nat) (ra : Option Addr) (rn rc : Nat) (w : World) (hv : v.ok) (hrn : rn = rs.length) (hr : CellsAt w ra (rs.map (Value.int .u8))) (hr8 : Bytes8 rs) (hN : N ≤ 200000) (hrN : rn = N % 64) (h1 : vdB N rn = true) :
    Calls Tryd.prog 12 #[.agg #[.int .u32 v.a, .int .u32 v.b, .int .u32 v.c, .int .u32 v.d, .int .u32 v.e, .int .u32 v.f, .int .u32 v.g, .int .u32 v.z, .slice ra rn rc, .int .i64 N]] w fun e w' =>
      e = idE (endL v.list rs N, 0) ∧ Below w.heap.size w w' := by
  obtain ⟨i0, hi, hz0, hz1, hz2⟩ := info_parts info_u8
  have H1 := hid h1
  obtain ⟨n, hn⟩ : ∃ n, rn + (9 + zn N) = n := ⟨_, rfl⟩
  have hnn : n ≤ 1000 := by have := zn_lt N; omega
  have hrb : rn ≤ 64 := by omega
  obtain ⟨bs, hbs⟩ : ∃ bs, bs = rs ++ tailL N := ⟨_, rfl⟩
  have hb8 : Bytes8 bs := hbs ▸ hr8.append (tailL_bytes N)
  have hbl : n = bs.length := by rw [hbs, List.length_append, tailL_len]; omega
  obtain ⟨u, hu⟩ := V8.of_list (mill v.list bs) ((grindN_len _ _ _).trans rfl)
  have huk := mill_ok hv bs hu
  have hl1 : (rs.map (Value.int .u8)).length = rn * 1 := by rw [List.length_map, hrn, Nat.mul_one]
  have hl2 : ((tailL N).map (Value.int .u8)).length = (9 + zn N) * 1 := by rw [List.length_map, tailL_len, Nat.mul_one]
  have hNI : (N : Int) ≤ 200000 := by omega
  have H_h1 := hid h1
  have H_hrn := hid hrn
  have H_hrN := hid hrN
  have H_hn := hid hn
  have H_hbs := hid hbs
  have H_hbl := hid hbl
  have H_hu := hid hu
  have H_huk := hid huk
  have H_hl1 := hid hl1
  have H_hl2 := hid hl2
  have H_hv := hid hv
  clear h1 hrn hrN hn hbs hbl hu huk hl1 hl2 hv
  go_enter Tryd.func12, Tryd.ntmps12
  have hb0 := Below.refl w.heap.size w
  go_wp2_with fail
  with_reducible refine (rvalid_any v ra rn rc N _).mono ?_
  rintro e w1 ⟨rfl, hc1⟩
  have hI1 : Blk w1 (w.heap.size + 1) 33 (List.replicate 32 (Value.int .u8 0)) := Blk.later (Blk.newA _ _ _ _ (List.replicate 32 (Value.int .u8 0)) (by simp) (by rfl)) hc1
  have kr := hr.later (bchain (by repeat' (first | with_reducible exact hb0 | with_reducible refine Below.drew ?_ | with_reducible refine below_drewN ?_ _ | with_reducible refine Below.alloc ?_ (by have := hb0.size; first | (simp; done) | (simp; omega) | omega) _ | with_reducible refine Below.setCell ?_ (by first | (simp; done) | (simp; omega) | omega) _)) hc1)
  clear hr
  have hb1 : Below w.heap.size w w1 := bchain (by repeat' (first | with_reducible exact hb0 | with_reducible refine Below.drew ?_ | with_reducible refine below_drewN ?_ _ | with_reducible refine Below.alloc ?_ (by have := hb0.size; first | (simp; done) | (simp; omega) | omega) _ | with_reducible refine Below.setCell ?_ (by first | (simp; done) | (simp; omega) | omega) _)) hc1
  have M_0 : w1.cell? ⟨w.heap.size, 0, none⟩ = some (.int .u32 v.a) := (hc1.cell (p := ⟨w.heap.size, 0, none⟩) (by first | (simp; done) | (simp; omega))).trans (by first | (simp; done) | go_simp)
  have M_1 : w1.cell? ⟨w.heap.size, 1, none⟩ = some (.int .u32 v.b) := (hc1.cell (p := ⟨w.heap.size, 1, none⟩) (by first | (simp; done) | (simp; omega))).trans (by first | (simp; done) | go_simp)
  have M_2 : w1.cell? ⟨w.heap.size, 2, none⟩ = some (.int .u32 v.c) := (hc1.cell (p := ⟨w.heap.size, 2, none⟩) (by first | (simp; done) | (simp; omega))).trans (by first | (simp; done) | go_simp)
  have M_3 : w1.cell? ⟨w.heap.size, 3, none⟩ = some (.int .u32 v.d) := (hc1.cell (p := ⟨w.heap.size, 3, none⟩) (by first | (simp; done) | (simp; omega))).trans (by first | (simp; done) | go_simp)
  have M_4 : w1.cell? ⟨w.heap.size, 4, none⟩ = some (.int .u32 v.e) := (hc1.cell (p := ⟨w.heap.size, 4, none⟩) (by first | (simp; done) | (simp; omega))).trans (by first | (simp; done) | go_simp)
  have M_5 : w1.cell? ⟨w.heap.size, 5, none⟩ = some (.int .u32 v.f) := (hc1.cell (p := ⟨w.heap.size, 5, none⟩) (by first | (simp; done) | (simp; omega))).trans (by first | (simp; done) | go_simp)
  have M_6 : w1.cell? ⟨w.heap.size, 6, none⟩ = some (.int .u32 v.g) := (hc1.cell (p := ⟨w.heap.size, 6, none⟩) (by first | (simp; done) | (simp; omega))).trans (by first | (simp; done) | go_simp)
  have M_7 : w1.cell? ⟨w.heap.size, 7, none⟩ = some (.int .u32 v.z) := (hc1.cell (p := ⟨w.heap.size, 7, none⟩) (by first | (simp; done) | (simp; omega))).trans (by first | (simp; done) | go_simp)
  have M_8 : w1.cell? ⟨w.heap.size, 8, none⟩ = some (.slice ra rn rc) := (hc1.cell (p := ⟨w.heap.size, 8, none⟩) (by first | (simp; done) | (simp; omega))).trans (by first | (simp; done) | go_simp)
  have M_9 : w1.cell? ⟨w.heap.size, 9, none⟩ = some (.int .i64 N) := (hc1.cell (p := ⟨w.heap.size, 9, none⟩) (by first | (simp; done) | (simp; omega))).trans (by first | (simp; done) | go_simp)
  have M_f0 : w1.frozen? ⟨w.heap.size, 0, none⟩ = false := (hc1.frozen (p := ⟨w.heap.size, 0, none⟩) (by first | (simp; done) | (simp; omega))).trans (by first | (simp; done) | go_simp)
  have M_f1 : w1.frozen? ⟨w.heap.size, 1, none⟩ = false := (hc1.frozen (p := ⟨w.heap.size, 1, none⟩) (by first | (simp; done) | (simp; omega))).trans (by first | (simp; done) | go_simp)
  have M_f2 : w1.frozen? ⟨w.heap.size, 2, none⟩ = false := (hc1.frozen (p := ⟨w.heap.size, 2, none⟩) (by first | (simp; done) | (simp; omega))).trans (by first | (simp; done) | go_simp)
  have M_f3 : w1.frozen? ⟨w.heap.size, 3, none⟩ = false := (hc1.frozen (p := ⟨w.heap.size, 3, none⟩) (by first | (simp; done) | (simp; omega))).trans (by first | (simp; done) | go_simp)
  have M_f4 : w1.frozen? ⟨w.heap.size, 4, none⟩ = false := (hc1.frozen (p := ⟨w.heap.size, 4, none⟩) (by first | (simp; done) | (simp; omega))).trans (by first | (simp; done) | go_simp)
  have M_f5 : w1.frozen? ⟨w.heap.size, 5, none⟩ = false := (hc1.frozen (p := ⟨w.heap.size, 5, none⟩) (by first | (simp; done) | (simp; omega))).trans (by first | (simp; done) | go_simp)
  have M_f6 : w1.frozen? ⟨w.heap.size, 6, none⟩ = false := (hc1.frozen (p := ⟨w.heap.size, 6, none⟩) (by first | (simp; done) | (simp; omega))).trans (by first | (simp; done) | go_simp)
  have M_f7 : w1.frozen? ⟨w.heap.size, 7, none⟩ = false := (hc1.frozen (p := ⟨w.heap.size, 7, none⟩) (by first | (simp; done) | (simp; omega))).trans (by first | (simp; done) | go_simp)
  have M_f8 : w1.frozen? ⟨w.heap.size, 8, none⟩ = false := (hc1.frozen (p := ⟨w.heap.size, 8, none⟩) (by first | (simp; done) | (simp; omega))).trans (by first | (simp; done) | go_simp)
  have M_f9 : w1.frozen? ⟨w.heap.size, 9, none⟩ = false := (hc1.frozen (p := ⟨w.heap.size, 9, none⟩) (by first | (simp; done) | (simp; omega))).trans (by first | (simp; done) | go_simp)
  have M_l : w.heap.size < w1.heap.size := Nat.lt_of_lt_of_le (by first | (simp; done) | (simp; omega)) hc1.size
  clear hc1
  rw [H1.out]
  go_wp2_with fail
  refine wp_gen fun w2 hc2 => ?_
  have hb2 : Below w.heap.size w w2 := bchain (by repeat' (first | with_reducible exact hb1 | with_reducible refine Below.drew ?_ | with_reducible refine below_drewN ?_ _ | with_reducible refine Below.alloc ?_ (by have := hb1.size; first | (simp; done) | (simp; omega) | omega) _ | with_reducible refine Below.setCell ?_ (by first | (simp; done) | (simp; omega) | omega) _)) hc2
  have hst2 : Below w1.heap.size w1 w2 := bchain (by repeat' (first | with_reducible exact Below.refl _ _ | with_reducible refine Below.drew ?_ | with_reducible refine below_drewN ?_ _ | with_reducible refine Below.alloc ?_ (by first | (simp; done) | (simp; omega) | omega) _ | with_reducible refine Below.setCell ?_ (by first | (simp; done) | (simp; omega) | omega) _)) hc2
  replace M_0 := cell_later hst2 M_0
  replace M_1 := cell_later hst2 M_1
  replace M_2 := cell_later hst2 M_2
  replace M_3 := cell_later hst2 M_3
  replace M_4 := cell_later hst2 M_4
  replace M_5 := cell_later hst2 M_5
  replace M_6 := cell_later hst2 M_6
  replace M_7 := cell_later hst2 M_7
  replace M_8 := cell_later hst2 M_8
  replace M_9 := cell_later hst2 M_9
  replace M_f0 := frozen_later hst2 M_l M_f0
  replace M_f1 := frozen_later hst2 M_l M_f1
  replace M_f2 := frozen_later hst2 M_l M_f2
  replace M_f3 := frozen_later hst2 M_l M_f3
  replace M_f4 := frozen_later hst2 M_l M_f4
  replace M_f5 := frozen_later hst2 M_l M_f5
  replace M_f6 := frozen_later hst2 M_l M_f6
  replace M_f7 := frozen_later hst2 M_l M_f7
  replace M_f8 := frozen_later hst2 M_l M_f8
  replace M_f9 := frozen_later hst2 M_l M_f9
  replace M_l := Nat.lt_of_lt_of_le M_l hst2.size
  replace hI1 := hI1.later hst2
  replace kr := kr.later hst2
  clear hst2
  have KM_0 := cell_on M_0
  have KM_1 := cell_on M_1
  have KM_2 := cell_on M_2
  have KM_3 := cell_on M_3
  have KM_4 := cell_on M_4
  have KM_5 := cell_on M_5
  have KM_6 := cell_on M_6
  have KM_7 := cell_on M_7
  have KM_8 := cell_on M_8
  have KM_9 := cell_on M_9
  refine wp_region_on_spec_tail [(2, [], fun _ => VEmpty), (5, [], fun _ => VCup w2.heap.size 5 1 rn (rs.map (Value.int .u8))), (8, [], fun _ => VCells (9 + zn N) ((tailL N).map (Value.int .u8))), (9, [], fun _ => VCells n (bs.map (Value.int .u8))), (10, [], fun _ => VIs (.agg #[.int .u32 u.a, .int .u32 u.b, .int .u32 u.c, .int .u32 u.d, .int .u32 u.e, .int .u32 u.f, .int .u32 u.g, .int .u32 u.z])), (11, [], fun _ => VIs (.agg ((wr32 u.list 32).map (Value.int .u8)).toArray))] [2, 5, 8, 9, 10, 11] [9] [(2, []), (5, []), (8, []), (9, []), (10, []), (11, [])] 12 (by kernel_rfl) (by kernel_rfl) rfl (by kernel_rfl) rfl (by kernel_rfl) ⟨fun _ => VEmpty.last, fun _ => VCup.last, fun _ => VCells.last, fun _ => VCells.last, fun _ => VIs.last, fun _ => VIs.last, trivial⟩ ?_
  try simp only [List.take_succ_cons, List.take_zero, List.drop_succ_cons, List.drop_zero]
  refine wpSpec_quiet 2 (by kernel_rfl) (by kernel_rfl) ?_
  simp only [List.take_succ_cons, List.take_zero, List.drop_succ_cons, List.drop_zero]
  repeat (go_big_quiet_step (fail))
  refine wpQuiet_nil ?_
  show wpSpec _ _ _ _ _ _ _ _ _ _ _
  refine wpSpec_at [] (VEmpty) rfl (by first | rfl | (simp [viewS, Act.eval]; done)) rfl (by first | rfl | (simp [Region.wanted]; done)) ?_ rfl ?_
  · intro wq hq hfq
    clear hfq
    unfold Oper.gives; go_simp; exact ⟨(Below.refl _ _).alloc (Nat.le_refl _) _, _, rfl⟩
  rintro x2 -
  simp only [Act.put, List.setIfInBounds_toArray, List.set_cons_succ, List.set_cons_zero]
  refine wpSpec_quiet 2 (by kernel_rfl) (by kernel_rfl) ?_
  simp only [List.take_succ_cons, List.take_zero, List.drop_succ_cons, List.drop_zero]
  repeat (go_big_quiet_step (fail))
  refine wpQuiet_nil ?_
  show wpSpec _ _ _ _ _ _ _ _ _ _ _
  refine wpSpec_at [] (VCup w2.heap.size 5 1 rn (rs.map (Value.int .u8))) rfl (by first | rfl | (simp [viewS, Act.eval]; done)) rfl (by first | rfl | (simp [Region.wanted]; done)) ?_ rfl ?_
  · intro wq hq hfq
    have f2 := hfq 2 (by kernel_rfl)
    simp only [upd, Nat.beq, cond] at f2
    clear hfq
    exact gives_append_c0 _ _ _ rfl x2 (.slice ra rn rc) rfl rfl _ _ i0 (.int .u8 0) 1 1 Tryd.underlying24 hi hz0 hz1 hz2 rfl (by decide) f2 rn _ ⟨_, _, rfl, kr.later hq⟩ H_hl1.out (ints_oneCell _ _) (by unfold maxLen; omega) (by omega) hq.size
  rintro x5 -
  simp only [Act.put, List.setIfInBounds_toArray, List.set_cons_succ, List.set_cons_zero]
  refine wpSpec_quiet 2 (by kernel_rfl) (by kernel_rfl) ?_
  simp only [List.take_succ_cons, List.take_zero, List.drop_succ_cons, List.drop_zero]
  repeat (go_big_quiet_step (fail))
  refine wpQuiet_nil ?_
  show wpSpec _ _ _ _ _ _ _ _ _ _ _
  refine wpSpec_at [] (VCells (9 + zn N) ((tailL N).map (Value.int .u8))) rfl (by first | rfl | (simp [viewS, Act.eval]; done)) rfl (by first | rfl | (simp [Region.wanted]; done)) ?_ rfl ?_
  · intro wq hq hfq
    have f5 := hfq 5 (by kernel_rfl)
    simp only [upd, Nat.beq, cond] at f5
    clear hfq
    refine gives_call 33 _ _ #[.int .i64 N] rfl (by kernel_rfl) (by simp [Act.eval]) ((tail_any N _ (by omega)).mono ?_)
    rintro e w' ⟨a', c', rfl, ho, hb⟩
    exact ⟨_, rfl, hb, VOwn.cells ⟨_, _, rfl, ho⟩⟩
  rintro x8 -
  simp only [Act.put, List.setIfInBounds_toArray, List.set_cons_succ, List.set_cons_zero]
  refine wpSpec_atD [] (VCells n (bs.map (Value.int .u8))) rfl (by first | rfl | (simp [viewS, Act.eval]; done)) rfl (by first | rfl | (simp [Region.wanted]; done)) ?_ rfl ?_
  · intro wq hq hfq
    have f5 := hfq 5 (by kernel_rfl)
    have f8 := hfq 8 (by kernel_rfl)
    simp only [upd, Nat.beq, cond] at f5 f8
    clear hfq
    refine (gives_append_cup _ _ _ rfl x5 x8 rfl rfl w2.heap.size _ i0 (.int .u8 0) 1 1 Tryd.underlying24 hi hz0 hz1 hz2 rfl (by decide) rn _ f5 (9 + zn N) _ f8.row H_hl2.out (ints_oneCell _ _) n H_hn.out (by unfold maxLen; omega) (by omega) hq.size).mono ?_
    rintro r w' ⟨hb, hv⟩
    rw [← List.map_append, ← H_hbs.out] at hv
    exact ⟨hb, hv.cells⟩
  rintro x9 -
  simp only [Act.put, List.setIfInBounds_toArray, List.set_cons_succ, List.set_cons_zero]
  refine wpSpec_at [] (VIs (.agg #[.int .u32 u.a, .int .u32 u.b, .int .u32 u.c, .int .u32 u.d, .int .u32 u.e, .int .u32 u.f, .int .u32 u.g, .int .u32 u.z])) rfl (by first | rfl | (simp [viewS, Act.eval]; done)) rfl (by first | rfl | (simp [Region.wanted]; done)) ?_ rfl ?_
  · intro wq hq hfq
    have f9 := hfq 9 (by kernel_rfl)
    simp only [upd, Nat.beq, cond] at f9
    clear hfq
    obtain ⟨a9, c9, rfl, h9, k9⟩ := f9
    refine gives_call 30 _ _ #[.agg #[.int .u32 v.a, .int .u32 v.b, .int .u32 v.c, .int .u32 v.d, .int .u32 v.e, .int .u32 v.f, .int .u32 v.g, .int .u32 v.z], .slice a9 n c9] rfl (by kernel_rfl) (by simp [Act.eval]) ((blocks_v u v bs a9 n c9 _ H_hv.out H_hbl.out h9 (by omega) k9 hb8 H_hu.out).mono ?_)
    rintro e w' ⟨rfl, hb⟩
    exact ⟨_, rfl, hb, rfl⟩
  rintro x10 -
  simp only [Act.put, List.setIfInBounds_toArray, List.set_cons_succ, List.set_cons_zero]
  refine wpSpec_at [] (VIs (.agg ((wr32 u.list 32).map (Value.int .u8)).toArray)) rfl (by first | rfl | (simp [viewS, Act.eval]; done)) rfl (by first | rfl | (simp [Region.wanted]; done)) ?_ rfl ?_
  · intro wq hq hfq
    have f10 := hfq 10 (by kernel_rfl)
    simp only [upd, Nat.beq, cond] at f10
    clear hfq
    subst f10
    refine gives_call 32 _ _ #[.agg #[.int .u32 u.a, .int .u32 u.b, .int .u32 u.c, .int .u32 u.d, .int .u32 u.e, .int .u32 u.f, .int .u32 u.g, .int .u32 u.z]] rfl (by kernel_rfl) (by simp [Act.eval]) ((written_any u _ H_huk.out).mono ?_)
    rintro e w' ⟨rfl, hb⟩
    exact ⟨_, rfl, hb, rfl⟩
  rintro x11 -
  simp only [Act.put, List.setIfInBounds_toArray, List.set_cons_succ, List.set_cons_zero]
  intro w3 hc3 hfq
  have f11 := hfq 11
  simp only [upd, Nat.beq, cond] at f11
  clear hfq
  clear KM_0 KM_1 KM_2 KM_3 KM_4 KM_5 KM_6 KM_7 KM_8 KM_9
  have hb3 : Below w.heap.size w w3 := bchain (by repeat' (first | with_reducible exact hb2 | with_reducible refine Below.drew ?_ | with_reducible refine below_drewN ?_ _ | with_reducible refine Below.alloc ?_ (by have := hb2.size; first | (simp; done) | (simp; omega) | omega) _ | with_reducible refine Below.setCell ?_ (by first | (simp; done) | (simp; omega) | omega) _)) hc3
  have hst3 : Below w2.heap.size w2 w3 := bchain (by repeat' (first | with_reducible exact Below.refl _ _ | with_reducible refine Below.drew ?_ | with_reducible refine below_drewN ?_ _ | with_reducible refine Below.alloc ?_ (by first | (simp; done) | (simp; omega) | omega) _ | with_reducible refine Below.setCell ?_ (by first | (simp; done) | (simp; omega) | omega) _)) hc3
  replace M_0 := cell_later hst3 M_0
  replace M_1 := cell_later hst3 M_1
  replace M_2 := cell_later hst3 M_2
  replace M_3 := cell_later hst3 M_3
  replace M_4 := cell_later hst3 M_4
  replace M_5 := cell_later hst3 M_5
  replace M_6 := cell_later hst3 M_6
  replace M_7 := cell_later hst3 M_7
  replace M_8 := cell_later hst3 M_8
  replace M_9 := cell_later hst3 M_9
  replace M_f0 := frozen_later hst3 M_l M_f0
  replace M_f1 := frozen_later hst3 M_l M_f1
  replace M_f2 := frozen_later hst3 M_l M_f2
  replace M_f3 := frozen_later hst3 M_l M_f3
  replace M_f4 := frozen_later hst3 M_l M_f4
  replace M_f5 := frozen_later hst3 M_l M_f5
  replace M_f6 := frozen_later hst3 M_l M_f6
  replace M_f7 := frozen_later hst3 M_l M_f7
  replace M_f8 := frozen_later hst3 M_l M_f8
  replace M_f9 := frozen_later hst3 M_l M_f9
  replace M_l := Nat.lt_of_lt_of_le M_l hst3.size
  replace hI1 := hI1.later hst3
  replace kr := kr.later hst3
  clear hst3
  obtain ⟨vs, hvs⟩ : ∃ vs, vs = (wr32 u.list 32).map (Value.int .u8) := ⟨_, rfl⟩
  have hvl : vs.length = 32 := by rw [hvs, List.length_map, wr32_len]
  have ho : ∀ x ∈ vs, x.oneCell' = true := by rw [hvs]; exact oneCell_ints _ _
  have hi2 : (Tryd.prog.info? 33).map (·.size) = some vs.length := by rw [hvl]; exact info32
  have hlr : vs.length = (List.replicate 32 (Value.int .u8 0)).length := by rw [hvl]; rfl
  have f11' : x11 = .agg vs.toArray := by rw [hvs]; exact f11
  subst f11'
  clear f11
  have H_hvs := hid hvs
  have H_hvl := hid hvl
  have H_ho := hid ho
  have H_hi2 := hid hi2
  have H_hlr := hid hlr
  clear hvs hvl ho hi2 hlr
  refine wpList_store_blk rfl 33 _ _ rfl (w.heap.size + 1) (by rfl) 33 _ vs (by rfl) hI1 H_hlr.out H_hi2.out H_ho.out ?_
  intro w7 hB7 he7
  have H7 := hid he7
  clear he7
  go_wp2_with fail
  have hb7 : Below w.heap.size w w7 := H7.out ▸ below_setCells (Nat.le_succ _) _ _ _ hb3
  refine bodyPost_ret (results_blk2 (by rfl) _ _ (w.heap.size + 1) 33 _ _ (.int .i64 0) rfl rfl hB7 Tryd.underlying33 rfl H_hi2.out) rfl ⟨?_, hb7⟩
  rw [idE_mk, H_hvs.out, H_hu.out, H_hbs.out, endL]

theorem info32r : (Tryd.prog.info? 33).map (·.size) = some (List.replicate 32 (Value.int .u8 0)).length := by kernel_rfl
theorem oneCell_zeros : ∀ v ∈ List.replicate 32 (Value.int .u8 0), v.oneCell' = true := fun v hv => by rw [(List.mem_replicate.1 hv).2]; rfl

set_option maxRecDepth 100000 in
set_option maxHeartbeats 4000000 in
theorem rend_any (v : V8) (rs : List Int) (N : Int) (ra : Option Addr) (rn rc : Nat) (w : World) (hv : v.ok) (hrn : rn = rs.length) (hr : CellsAt w ra (rs.map (Value.int .u8))) (hr8 : Bytes8 rs) :
    Calls Tryd.prog 12 #[.agg #[.int .u32 v.a, .int .u32 v.b, .int .u32 v.c, .int .u32 v.d, .int .u32 v.e, .int .u32 v.f, .int .u32 v.g, .int .u32 v.z, .slice ra rn rc, .int .i64 N]] w fun e w' =>
      e = idE (endM v.list rs N) ∧ Below w.heap.size w w' := by
  by_cases h1 : vdB N rn = true
  · have hN : 0 ≤ N ∧ N ≤ 200000 ∧ (rn : Int) = N % 64 := by unfold vdB at h1; simp at h1; omega
    obtain ⟨N, rfl⟩ : ∃ M : Nat, N = M := ⟨N.toNat, by omega⟩
    refine (rend_ok v rs N ra rn rc w hv hrn hr hr8 (by omega) (by omega) h1).mono fun e w' ⟨h, hb⟩ => ⟨?_, hb⟩
    rw [h]; unfold endM; rw [← hrn, if_neg (by rw [h1]; simp), Int.toNat_natCast]
  · have h1' : vdB N rn = false := by simpa using h1
    have HA := hid (show endM v.list rs N = (List.replicate 32 0, 8) by unfold endM; rw [← hrn, if_pos h1'])
    have H1 := hid h1'
    clear hrn h1 h1' hr
    go_enter Tryd.func12, Tryd.ntmps12
    have hb0 := Below.refl w.heap.size w
    go_wp2_with fail
    with_reducible refine (rvalid_any v ra rn rc N _).mono ?_
    rintro e w1 ⟨rfl, hc1⟩
    have hI1 : Blk w1 (w.heap.size + 1) 33 (List.replicate 32 (Value.int .u8 0)) := Blk.later (Blk.newA _ _ _ _ (List.replicate 32 (Value.int .u8 0)) (by simp) (by rfl)) hc1
    have hb1 : Below w.heap.size w w1 := bchain (by repeat' (first | with_reducible exact hb0 | with_reducible refine Below.drew ?_ | with_reducible refine below_drewN ?_ _ | with_reducible refine Below.alloc ?_ (by have := hb0.size; first | (simp; done) | (simp; omega) | omega) _ | with_reducible refine Below.setCell ?_ (by first | (simp; done) | (simp; omega) | omega) _)) hc1
    have M_0 : w1.cell? ⟨w.heap.size, 0, none⟩ = some (.int .u32 v.a) := (hc1.cell (p := ⟨w.heap.size, 0, none⟩) (by first | (simp; done) | (simp; omega))).trans (by first | (simp; done) | go_simp)
    have M_1 : w1.cell? ⟨w.heap.size, 1, none⟩ = some (.int .u32 v.b) := (hc1.cell (p := ⟨w.heap.size, 1, none⟩) (by first | (simp; done) | (simp; omega))).trans (by first | (simp; done) | go_simp)
    have M_2 : w1.cell? ⟨w.heap.size, 2, none⟩ = some (.int .u32 v.c) := (hc1.cell (p := ⟨w.heap.size, 2, none⟩) (by first | (simp; done) | (simp; omega))).trans (by first | (simp; done) | go_simp)
    have M_3 : w1.cell? ⟨w.heap.size, 3, none⟩ = some (.int .u32 v.d) := (hc1.cell (p := ⟨w.heap.size, 3, none⟩) (by first | (simp; done) | (simp; omega))).trans (by first | (simp; done) | go_simp)
    have M_4 : w1.cell? ⟨w.heap.size, 4, none⟩ = some (.int .u32 v.e) := (hc1.cell (p := ⟨w.heap.size, 4, none⟩) (by first | (simp; done) | (simp; omega))).trans (by first | (simp; done) | go_simp)
    have M_5 : w1.cell? ⟨w.heap.size, 5, none⟩ = some (.int .u32 v.f) := (hc1.cell (p := ⟨w.heap.size, 5, none⟩) (by first | (simp; done) | (simp; omega))).trans (by first | (simp; done) | go_simp)
    have M_6 : w1.cell? ⟨w.heap.size, 6, none⟩ = some (.int .u32 v.g) := (hc1.cell (p := ⟨w.heap.size, 6, none⟩) (by first | (simp; done) | (simp; omega))).trans (by first | (simp; done) | go_simp)
    have M_7 : w1.cell? ⟨w.heap.size, 7, none⟩ = some (.int .u32 v.z) := (hc1.cell (p := ⟨w.heap.size, 7, none⟩) (by first | (simp; done) | (simp; omega))).trans (by first | (simp; done) | go_simp)
    have M_8 : w1.cell? ⟨w.heap.size, 8, none⟩ = some (.slice ra rn rc) := (hc1.cell (p := ⟨w.heap.size, 8, none⟩) (by first | (simp; done) | (simp; omega))).trans (by first | (simp; done) | go_simp)
    have M_9 : w1.cell? ⟨w.heap.size, 9, none⟩ = some (.int .i64 N) := (hc1.cell (p := ⟨w.heap.size, 9, none⟩) (by first | (simp; done) | (simp; omega))).trans (by first | (simp; done) | go_simp)
    have M_f0 : w1.frozen? ⟨w.heap.size, 0, none⟩ = false := (hc1.frozen (p := ⟨w.heap.size, 0, none⟩) (by first | (simp; done) | (simp; omega))).trans (by first | (simp; done) | go_simp)
    have M_f1 : w1.frozen? ⟨w.heap.size, 1, none⟩ = false := (hc1.frozen (p := ⟨w.heap.size, 1, none⟩) (by first | (simp; done) | (simp; omega))).trans (by first | (simp; done) | go_simp)
    have M_f2 : w1.frozen? ⟨w.heap.size, 2, none⟩ = false := (hc1.frozen (p := ⟨w.heap.size, 2, none⟩) (by first | (simp; done) | (simp; omega))).trans (by first | (simp; done) | go_simp)
    have M_f3 : w1.frozen? ⟨w.heap.size, 3, none⟩ = false := (hc1.frozen (p := ⟨w.heap.size, 3, none⟩) (by first | (simp; done) | (simp; omega))).trans (by first | (simp; done) | go_simp)
    have M_f4 : w1.frozen? ⟨w.heap.size, 4, none⟩ = false := (hc1.frozen (p := ⟨w.heap.size, 4, none⟩) (by first | (simp; done) | (simp; omega))).trans (by first | (simp; done) | go_simp)
    have M_f5 : w1.frozen? ⟨w.heap.size, 5, none⟩ = false := (hc1.frozen (p := ⟨w.heap.size, 5, none⟩) (by first | (simp; done) | (simp; omega))).trans (by first | (simp; done) | go_simp)
    have M_f6 : w1.frozen? ⟨w.heap.size, 6, none⟩ = false := (hc1.frozen (p := ⟨w.heap.size, 6, none⟩) (by first | (simp; done) | (simp; omega))).trans (by first | (simp; done) | go_simp)
    have M_f7 : w1.frozen? ⟨w.heap.size, 7, none⟩ = false := (hc1.frozen (p := ⟨w.heap.size, 7, none⟩) (by first | (simp; done) | (simp; omega))).trans (by first | (simp; done) | go_simp)
    have M_f8 : w1.frozen? ⟨w.heap.size, 8, none⟩ = false := (hc1.frozen (p := ⟨w.heap.size, 8, none⟩) (by first | (simp; done) | (simp; omega))).trans (by first | (simp; done) | go_simp)
    have M_f9 : w1.frozen? ⟨w.heap.size, 9, none⟩ = false := (hc1.frozen (p := ⟨w.heap.size, 9, none⟩) (by first | (simp; done) | (simp; omega))).trans (by first | (simp; done) | go_simp)
    have M_l : w.heap.size < w1.heap.size := Nat.lt_of_lt_of_le (by first | (simp; done) | (simp; omega)) hc1.size
    clear hc1
    rw [H1.out]
    go_wp2_with (refine wpList_store_blk rfl 33 _ _ rfl (w.heap.size + 1) (by rfl) 33 _ (List.replicate 32 (Value.int .u8 0)) (by rfl) hI1 rfl info32r oneCell_zeros ?_; intro w7 hB7 he7; have H7 := hid he7; clear he7)
    go_wp2_with fail
    have hb7 : Below w.heap.size w w7 := H7.out ▸ below_setCells (Nat.le_succ _) _ _ _ hb1
    refine bodyPost_ret (results_blk2 (by rfl) _ _ (w.heap.size + 1) 33 _ _ (.int .i64 8) rfl rfl hB7 Tryd.underlying33 rfl info32r) rfl ⟨?_, hb7⟩
    rw [HA.out, idE_mk]; simp
set_option maxRecDepth 100000 in
set_option maxHeartbeats 4000000 in
theorem End_any (v : V8) (rs : List Int) (N : Int) (ra : Option Addr) (rn rc : Nat) (w : World) (hv : v.ok) (hrn : rn = rs.length) (hr : CellsAt w ra (rs.map (Value.int .u8))) (hr8 : Bytes8 rs) (hK : CellsAt w (some ⟨0, 0, none⟩) (kcs.map (Value.int .u32))) (hw0 : 0 < w.heap.size) :
    Calls Tryd.prog 11 #[.agg #[.int .u32 v.a, .int .u32 v.b, .int .u32 v.c, .int .u32 v.d, .int .u32 v.e, .int .u32 v.f, .int .u32 v.g, .int .u32 v.z, .slice ra rn rc, .int .i64 N]] w fun e w' =>
      e = idE (endM v.list rs N) ∧ Below w.heap.size w w' := by
  by_cases h1 : vdB N rn = true
  · have hN : 0 ≤ N ∧ N ≤ 200000 ∧ (rn : Int) = N % 64 := by unfold vdB at h1; simp at h1; omega
    obtain ⟨N, rfl⟩ : ∃ M : Nat, N = M := ⟨N.toNat, by omega⟩
    have HA := hid (show endM v.list rs N = (endL v.list rs N, 0) by unfold endM; rw [← hrn, if_neg (by rw [h1]; simp), Int.toNat_natCast])
    have hN2 : N ≤ 200000 := by omega
    have hN3 := hid (show rn = N % 64 by omega)
    have H1 := hid h1
    have H_hrn := hid hrn
    have H_hv := hid hv
    clear hrn hv
    clear h1 hN
    go_enter Tryd.func11, Tryd.ntmps11
    have hb0 := Below.refl w.heap.size w
    go_wp2_with fail
    with_reducible refine (valid_any v ra rn rc N _).mono ?_
    rintro e w1 ⟨rfl, hc1⟩
    have hI1 : Blk w1 (w.heap.size + 1) 33 (List.replicate 32 (Value.int .u8 0)) := Blk.later (Blk.newA _ _ _ _ (List.replicate 32 (Value.int .u8 0)) (by simp) (by rfl)) hc1
    have kr := hr.later (bchain (by repeat' (first | with_reducible exact hb0 | with_reducible refine Below.drew ?_ | with_reducible refine below_drewN ?_ _ | with_reducible refine Below.alloc ?_ (by have := hb0.size; first | (simp; done) | (simp; omega) | omega) _ | with_reducible refine Below.setCell ?_ (by first | (simp; done) | (simp; omega) | omega) _)) hc1)
    have kK := hK.later (bchain (by repeat' (first | with_reducible exact hb0 | with_reducible refine Below.drew ?_ | with_reducible refine below_drewN ?_ _ | with_reducible refine Below.alloc ?_ (by have := hb0.size; first | (simp; done) | (simp; omega) | omega) _ | with_reducible refine Below.setCell ?_ (by first | (simp; done) | (simp; omega) | omega) _)) hc1)
    have hw1 : 0 < w1.heap.size := Nat.lt_of_lt_of_le hw0 (bchain (by repeat' (first | with_reducible exact hb0 | with_reducible refine Below.drew ?_ | with_reducible refine below_drewN ?_ _ | with_reducible refine Below.alloc ?_ (by have := hb0.size; first | (simp; done) | (simp; omega) | omega) _ | with_reducible refine Below.setCell ?_ (by first | (simp; done) | (simp; omega) | omega) _)) hc1).size
    clear hr hK
    have hb1 : Below w.heap.size w w1 := bchain (by repeat' (first | with_reducible exact hb0 | with_reducible refine Below.drew ?_ | with_reducible refine below_drewN ?_ _ | with_reducible refine Below.alloc ?_ (by have := hb0.size; first | (simp; done) | (simp; omega) | omega) _ | with_reducible refine Below.setCell ?_ (by first | (simp; done) | (simp; omega) | omega) _)) hc1
    have M_0 : w1.cell? ⟨w.heap.size, 0, none⟩ = some (.int .u32 v.a) := (hc1.cell (p := ⟨w.heap.size, 0, none⟩) (by first | (simp; done) | (simp; omega))).trans (by first | (simp; done) | go_simp)
    have M_1 : w1.cell? ⟨w.heap.size, 1, none⟩ = some (.int .u32 v.b) := (hc1.cell (p := ⟨w.heap.size, 1, none⟩) (by first | (simp; done) | (simp; omega))).trans (by first | (simp; done) | go_simp)
    have M_2 : w1.cell? ⟨w.heap.size, 2, none⟩ = some (.int .u32 v.c) := (hc1.cell (p := ⟨w.heap.size, 2, none⟩) (by first | (simp; done) | (simp; omega))).trans (by first | (simp; done) | go_simp)
    have M_3 : w1.cell? ⟨w.heap.size, 3, none⟩ = some (.int .u32 v.d) := (hc1.cell (p := ⟨w.heap.size, 3, none⟩) (by first | (simp; done) | (simp; omega))).trans (by first | (simp; done) | go_simp)
    have M_4 : w1.cell? ⟨w.heap.size, 4, none⟩ = some (.int .u32 v.e) := (hc1.cell (p := ⟨w.heap.size, 4, none⟩) (by first | (simp; done) | (simp; omega))).trans (by first | (simp; done) | go_simp)
    have M_5 : w1.cell? ⟨w.heap.size, 5, none⟩ = some (.int .u32 v.f) := (hc1.cell (p := ⟨w.heap.size, 5, none⟩) (by first | (simp; done) | (simp; omega))).trans (by first | (simp; done) | go_simp)
    have M_6 : w1.cell? ⟨w.heap.size, 6, none⟩ = some (.int .u32 v.g) := (hc1.cell (p := ⟨w.heap.size, 6, none⟩) (by first | (simp; done) | (simp; omega))).trans (by first | (simp; done) | go_simp)
    have M_7 : w1.cell? ⟨w.heap.size, 7, none⟩ = some (.int .u32 v.z) := (hc1.cell (p := ⟨w.heap.size, 7, none⟩) (by first | (simp; done) | (simp; omega))).trans (by first | (simp; done) | go_simp)
    have M_8 : w1.cell? ⟨w.heap.size, 8, none⟩ = some (.slice ra rn rc) := (hc1.cell (p := ⟨w.heap.size, 8, none⟩) (by first | (simp; done) | (simp; omega))).trans (by first | (simp; done) | go_simp)
    have M_9 : w1.cell? ⟨w.heap.size, 9, none⟩ = some (.int .i64 N) := (hc1.cell (p := ⟨w.heap.size, 9, none⟩) (by first | (simp; done) | (simp; omega))).trans (by first | (simp; done) | go_simp)
    have M_f0 : w1.frozen? ⟨w.heap.size, 0, none⟩ = false := (hc1.frozen (p := ⟨w.heap.size, 0, none⟩) (by first | (simp; done) | (simp; omega))).trans (by first | (simp; done) | go_simp)
    have M_f1 : w1.frozen? ⟨w.heap.size, 1, none⟩ = false := (hc1.frozen (p := ⟨w.heap.size, 1, none⟩) (by first | (simp; done) | (simp; omega))).trans (by first | (simp; done) | go_simp)
    have M_f2 : w1.frozen? ⟨w.heap.size, 2, none⟩ = false := (hc1.frozen (p := ⟨w.heap.size, 2, none⟩) (by first | (simp; done) | (simp; omega))).trans (by first | (simp; done) | go_simp)
    have M_f3 : w1.frozen? ⟨w.heap.size, 3, none⟩ = false := (hc1.frozen (p := ⟨w.heap.size, 3, none⟩) (by first | (simp; done) | (simp; omega))).trans (by first | (simp; done) | go_simp)
    have M_f4 : w1.frozen? ⟨w.heap.size, 4, none⟩ = false := (hc1.frozen (p := ⟨w.heap.size, 4, none⟩) (by first | (simp; done) | (simp; omega))).trans (by first | (simp; done) | go_simp)
    have M_f5 : w1.frozen? ⟨w.heap.size, 5, none⟩ = false := (hc1.frozen (p := ⟨w.heap.size, 5, none⟩) (by first | (simp; done) | (simp; omega))).trans (by first | (simp; done) | go_simp)
    have M_f6 : w1.frozen? ⟨w.heap.size, 6, none⟩ = false := (hc1.frozen (p := ⟨w.heap.size, 6, none⟩) (by first | (simp; done) | (simp; omega))).trans (by first | (simp; done) | go_simp)
    have M_f7 : w1.frozen? ⟨w.heap.size, 7, none⟩ = false := (hc1.frozen (p := ⟨w.heap.size, 7, none⟩) (by first | (simp; done) | (simp; omega))).trans (by first | (simp; done) | go_simp)
    have M_f8 : w1.frozen? ⟨w.heap.size, 8, none⟩ = false := (hc1.frozen (p := ⟨w.heap.size, 8, none⟩) (by first | (simp; done) | (simp; omega))).trans (by first | (simp; done) | go_simp)
    have M_f9 : w1.frozen? ⟨w.heap.size, 9, none⟩ = false := (hc1.frozen (p := ⟨w.heap.size, 9, none⟩) (by first | (simp; done) | (simp; omega))).trans (by first | (simp; done) | go_simp)
    have M_l : w.heap.size < w1.heap.size := Nat.lt_of_lt_of_le (by first | (simp; done) | (simp; omega)) hc1.size
    clear hc1
    rw [H1.out]
    obtain ⟨vs, hvs⟩ : ∃ vs, vs = (endL v.list rs N).map (Value.int .u8) := ⟨_, rfl⟩
    have hvl : vs.length = 32 := by rw [hvs, List.length_map, endL_len]
    have ho : ∀ x ∈ vs, x.oneCell' = true := by rw [hvs]; exact oneCell_ints _ _
    have hi2 : (Tryd.prog.info? 33).map (·.size) = some vs.length := by rw [hvl]; exact info32
    have hlr : vs.length = (List.replicate 32 (Value.int .u8 0)).length := by rw [hvl]; rfl
    have H_hvl := hid hvl
    have H_ho := hid ho
    have H_hi2 := hid hi2
    have H_hlr := hid hlr
    clear hvl ho hi2 hlr
    go_wp2_with fail
    with_reducible refine (end_any v rs N ra rn rc _ H_hv.out H_hrn.out kr hr8 kK hw1 hN2 hN3.out).mono ?_
    rintro e w2 ⟨rfl, hc2⟩
    rw [← hvs]
    have H_hvs := hid hvs
    clear hvs
    have hb2 : Below w.heap.size w w2 := bchain hb1 hc2
    have hI2 := hI1.later hc2
    clear hc2
    go_wp2_with (refine wpList_store_blk rfl 33 _ _ rfl (w.heap.size + 1) (by rfl) 33 _ vs (by rfl) hI2 H_hlr.out H_hi2.out H_ho.out ?_; intro w7 hB7 he7; have H7 := hid he7; clear he7)
    go_wp2_with fail
    have hb7 : Below w.heap.size w w7 := H7.out ▸ below_setCells (Nat.le_succ _) _ _ _ hb2
    refine bodyPost_ret (results_blk2 (by rfl) _ _ (w.heap.size + 1) 33 _ _ (.int .i64 0) rfl rfl hB7 Tryd.underlying33 rfl H_hi2.out) rfl ⟨?_, hb7⟩
    rw [HA.out, idE_mk, H_hvs.out]
  · have h1' : vdB N rn = false := by simpa using h1
    have HA := hid (show endM v.list rs N = (List.replicate 32 0, 8) by unfold endM; rw [← hrn, if_pos h1'])
    have H1 := hid h1'
    clear hrn h1 h1' hr
    go_enter Tryd.func11, Tryd.ntmps11
    have hb0 := Below.refl w.heap.size w
    go_wp2_with fail
    with_reducible refine (valid_any v ra rn rc N _).mono ?_
    rintro e w1 ⟨rfl, hc1⟩
    have hI1 : Blk w1 (w.heap.size + 1) 33 (List.replicate 32 (Value.int .u8 0)) := Blk.later (Blk.newA _ _ _ _ (List.replicate 32 (Value.int .u8 0)) (by simp) (by rfl)) hc1
    have hb1 : Below w.heap.size w w1 := bchain (by repeat' (first | with_reducible exact hb0 | with_reducible refine Below.drew ?_ | with_reducible refine below_drewN ?_ _ | with_reducible refine Below.alloc ?_ (by have := hb0.size; first | (simp; done) | (simp; omega) | omega) _ | with_reducible refine Below.setCell ?_ (by first | (simp; done) | (simp; omega) | omega) _)) hc1
    have M_0 : w1.cell? ⟨w.heap.size, 0, none⟩ = some (.int .u32 v.a) := (hc1.cell (p := ⟨w.heap.size, 0, none⟩) (by first | (simp; done) | (simp; omega))).trans (by first | (simp; done) | go_simp)
    have M_1 : w1.cell? ⟨w.heap.size, 1, none⟩ = some (.int .u32 v.b) := (hc1.cell (p := ⟨w.heap.size, 1, none⟩) (by first | (simp; done) | (simp; omega))).trans (by first | (simp; done) | go_simp)
    have M_2 : w1.cell? ⟨w.heap.size, 2, none⟩ = some (.int .u32 v.c) := (hc1.cell (p := ⟨w.heap.size, 2, none⟩) (by first | (simp; done) | (simp; omega))).trans (by first | (simp; done) | go_simp)
    have M_3 : w1.cell? ⟨w.heap.size, 3, none⟩ = some (.int .u32 v.d) := (hc1.cell (p := ⟨w.heap.size, 3, none⟩) (by first | (simp; done) | (simp; omega))).trans (by first | (simp; done) | go_simp)
    have M_4 : w1.cell? ⟨w.heap.size, 4, none⟩ = some (.int .u32 v.e) := (hc1.cell (p := ⟨w.heap.size, 4, none⟩) (by first | (simp; done) | (simp; omega))).trans (by first | (simp; done) | go_simp)
    have M_5 : w1.cell? ⟨w.heap.size, 5, none⟩ = some (.int .u32 v.f) := (hc1.cell (p := ⟨w.heap.size, 5, none⟩) (by first | (simp; done) | (simp; omega))).trans (by first | (simp; done) | go_simp)
    have M_6 : w1.cell? ⟨w.heap.size, 6, none⟩ = some (.int .u32 v.g) := (hc1.cell (p := ⟨w.heap.size, 6, none⟩) (by first | (simp; done) | (simp; omega))).trans (by first | (simp; done) | go_simp)
    have M_7 : w1.cell? ⟨w.heap.size, 7, none⟩ = some (.int .u32 v.z) := (hc1.cell (p := ⟨w.heap.size, 7, none⟩) (by first | (simp; done) | (simp; omega))).trans (by first | (simp; done) | go_simp)
    have M_8 : w1.cell? ⟨w.heap.size, 8, none⟩ = some (.slice ra rn rc) := (hc1.cell (p := ⟨w.heap.size, 8, none⟩) (by first | (simp; done) | (simp; omega))).trans (by first | (simp; done) | go_simp)
    have M_9 : w1.cell? ⟨w.heap.size, 9, none⟩ = some (.int .i64 N) := (hc1.cell (p := ⟨w.heap.size, 9, none⟩) (by first | (simp; done) | (simp; omega))).trans (by first | (simp; done) | go_simp)
    have M_f0 : w1.frozen? ⟨w.heap.size, 0, none⟩ = false := (hc1.frozen (p := ⟨w.heap.size, 0, none⟩) (by first | (simp; done) | (simp; omega))).trans (by first | (simp; done) | go_simp)
    have M_f1 : w1.frozen? ⟨w.heap.size, 1, none⟩ = false := (hc1.frozen (p := ⟨w.heap.size, 1, none⟩) (by first | (simp; done) | (simp; omega))).trans (by first | (simp; done) | go_simp)
    have M_f2 : w1.frozen? ⟨w.heap.size, 2, none⟩ = false := (hc1.frozen (p := ⟨w.heap.size, 2, none⟩) (by first | (simp; done) | (simp; omega))).trans (by first | (simp; done) | go_simp)
    have M_f3 : w1.frozen? ⟨w.heap.size, 3, none⟩ = false := (hc1.frozen (p := ⟨w.heap.size, 3, none⟩) (by first | (simp; done) | (simp; omega))).trans (by first | (simp; done) | go_simp)
    have M_f4 : w1.frozen? ⟨w.heap.size, 4, none⟩ = false := (hc1.frozen (p := ⟨w.heap.size, 4, none⟩) (by first | (simp; done) | (simp; omega))).trans (by first | (simp; done) | go_simp)
    have M_f5 : w1.frozen? ⟨w.heap.size, 5, none⟩ = false := (hc1.frozen (p := ⟨w.heap.size, 5, none⟩) (by first | (simp; done) | (simp; omega))).trans (by first | (simp; done) | go_simp)
    have M_f6 : w1.frozen? ⟨w.heap.size, 6, none⟩ = false := (hc1.frozen (p := ⟨w.heap.size, 6, none⟩) (by first | (simp; done) | (simp; omega))).trans (by first | (simp; done) | go_simp)
    have M_f7 : w1.frozen? ⟨w.heap.size, 7, none⟩ = false := (hc1.frozen (p := ⟨w.heap.size, 7, none⟩) (by first | (simp; done) | (simp; omega))).trans (by first | (simp; done) | go_simp)
    have M_f8 : w1.frozen? ⟨w.heap.size, 8, none⟩ = false := (hc1.frozen (p := ⟨w.heap.size, 8, none⟩) (by first | (simp; done) | (simp; omega))).trans (by first | (simp; done) | go_simp)
    have M_f9 : w1.frozen? ⟨w.heap.size, 9, none⟩ = false := (hc1.frozen (p := ⟨w.heap.size, 9, none⟩) (by first | (simp; done) | (simp; omega))).trans (by first | (simp; done) | go_simp)
    have M_l : w.heap.size < w1.heap.size := Nat.lt_of_lt_of_le (by first | (simp; done) | (simp; omega)) hc1.size
    clear hc1
    rw [H1.out]
    go_wp2_with (refine wpList_store_blk rfl 33 _ _ rfl (w.heap.size + 1) (by rfl) 33 _ (List.replicate 32 (Value.int .u8 0)) (by rfl) hI1 rfl info32r oneCell_zeros ?_; intro w7 hB7 he7; have H7 := hid he7; clear he7)
    go_wp2_with fail
    have hb7 : Below w.heap.size w w7 := H7.out ▸ below_setCells (Nat.le_succ _) _ _ _ hb1
    refine bodyPost_ret (results_blk2 (by rfl) _ _ (w.heap.size + 1) 33 _ _ (.int .i64 8) rfl rfl hB7 Tryd.underlying33 rfl info32r) rfl ⟨?_, hb7⟩
    rw [HA.out, idE_mk]; simp

end Go.Proofs.YtlilodfddojlhaaDoor
