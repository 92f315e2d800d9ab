/- The reference's First, blocks, Valid. -/
import Derived.Test.YtfabcdpmnbeflaaDoorDigGround
namespace Go.Proofs.YtfabcdpmnbeflaaDoor
set_option maxRecDepth 100000
set_option linter.unusedSimpArgs false
set_option linter.unusedVariables false
set_option linter.unnecessarySimpa false
open Go.RowKit

def v0c : V8 := ⟨1779033703, 3144134277, 1013904242, 2773480762, 1359893119, 2600822924, 528734635, 1541459225⟩
theorem v0c_ok : v0c.ok := by simp only [V8.ok, v0c]; omega
theorem first_any (w : World) :
    Calls Tryd.prog 69 #[] w fun e w' =>
      e = .returned (.agg #[.int .u32 v0c.a, .int .u32 v0c.b, .int .u32 v0c.c, .int .u32 v0c.d, .int .u32 v0c.e, .int .u32 v0c.f, .int .u32 v0c.g, .int .u32 v0c.z]) ∧ Below w.heap.size w w' := by
  go_enter Tryd.func69, Tryd.ntmps69
  have hb0 := Below.refl w.heap.size w
  go_wp2_with fail
  exact bodyPost_ret (v := .agg #[.int .u32 1779033703, .int .u32 3144134277, .int .u32 1013904242, .int .u32 2773480762, .int .u32 1359893119, .int .u32 2600822924, .int .u32 528734635, .int .u32 1541459225]) (by simp [results, Tryd.results69, go_sem]) rfl ⟨rfl, (by repeat' (first | with_reducible exact hb0 | with_reducible refine Below.drew ?_ | with_reducible refine below_drewN ?_ _ | with_reducible refine Below.alloc ?_ (by have := hb0.size; first | (simp; done) | (simp; omega) | omega) _ | with_reducible refine Below.setCell ?_ (by first | (simp; done) | (simp; omega) | omega) _))⟩
theorem start_any (w : World) :
    Calls Tryd.prog 63 #[] w fun e w' =>
      e = .returned (.agg #[.int .u32 v0c.a, .int .u32 v0c.b, .int .u32 v0c.c, .int .u32 v0c.d, .int .u32 v0c.e, .int .u32 v0c.f, .int .u32 v0c.g, .int .u32 v0c.z, .slice none 0 0, .int .i64 0]) ∧ Below w.heap.size w w' := by
  go_enter Tryd.func63, Tryd.ntmps63
  have hb0 := Below.refl w.heap.size w
  go_wp2_with fail
  exact bodyPost_ret (v := .agg #[.int .u32 1779033703, .int .u32 3144134277, .int .u32 1013904242, .int .u32 2773480762, .int .u32 1359893119, .int .u32 2600822924, .int .u32 528734635, .int .u32 1541459225, .slice none 0 0, .int .i64 0]) (by simp [results, Tryd.results63, go_sem]) rfl ⟨rfl, (by repeat' (first | with_reducible exact hb0 | with_reducible refine Below.drew ?_ | with_reducible refine below_drewN ?_ _ | with_reducible refine Below.alloc ?_ (by have := hb0.size; first | (simp; done) | (simp; omega) | omega) _ | with_reducible refine Below.setCell ?_ (by first | (simp; done) | (simp; omega) | omega) _))⟩
/-- Whether a mill is valid. -/
def vdB (N : Int) (n : Nat) : Bool := decide (0 ≤ N ∧ N ≤ 200000 ∧ (n : Int) = N % 64)
theorem slice_mid {P : Program} {t : TypeId} (ht : P.underlying t = some (.slice (P.elem t))) (hsz : ∀ w, (sizeOf (P.elem t)).run P w = .ok 1 w) (b o len cap lo hi : Nat) (h1 : lo < hi) (h2 : hi ≤ cap) :
    ∀ w', (Instr.slice t (.slice (some ⟨b, o, none⟩) len cap) (some (.int .i64 lo)) (some (.int .i64 hi)) none).run P w' = .ok (.slice (some ⟨b, o + lo, none⟩) (hi - lo) (cap - lo)) w' := fun w' => by
  rw [run_slice_lh w' t _ _ _ ht .i64 .i64 lo hi (by omega) (by omega) (by omega), hsz]
  simp [Result.andThen, sliced, show ¬ (cap = lo) by omega, Addr.add_lit]

set_option maxRecDepth 100000 in
set_option maxHeartbeats 4000000 in
theorem blocks_any (v : V8) (bs : List Int) (a : Option Addr) (n c : Nat) (w : World) (hv : v.ok) (hn : n = bs.length) (hnc : n ≤ c) (hb63 : n ≤ 140737488355328) (hc : CellsAt w a (bs.map (Value.int .u8))) (hb : Bytes8 bs) :
    Calls Tryd.prog 68 #[.agg #[.int .u32 v.a, .int .u32 v.b, .int .u32 v.c, .int .u32 v.d, .int .u32 v.e, .int .u32 v.f, .int .u32 v.g, .int .u32 v.z], .slice a n c] w fun e w' =>
      ∃ u : V8, e = .returned (.agg #[.int .u32 u.a, .int .u32 u.b, .int .u32 u.c, .int .u32 u.d, .int .u32 u.e, .int .u32 u.f, .int .u32 u.g, .int .u32 u.z]) ∧ u.list = mill v.list bs ∧ Below w.heap.size w w' := by
  have HV := hid hv
  have HN := hid hn
  clear hv hn
  go_enter Tryd.func68, Tryd.ntmps68
  have hb0 := Below.refl w.heap.size w
  go_wp2_with fail
  refine wp_gen fun w1 hc1 => ?_
  have hH : Blk w1 w.heap.size 93 (v.list.map (Value.int .u32)) := Blk.later ((Blk.newA w _ _ _ (v.list.map (Value.int .u32)) rfl (by rfl)).alloc _) hc1
  have hR : Blk w1 (w.heap.size + 1) 93 (List.replicate 8 (Value.int .u32 0)) := Blk.later (Blk.newA _ _ _ _ (List.replicate 8 (Value.int .u32 0)) (by simp) (by rfl)) hc1
  have hb1 : Below w.heap.size w w1 := bchain (by repeat' (first | with_reducible exact hb0 | with_reducible refine Below.drew ?_ | with_reducible refine below_drewN ?_ _ | with_reducible refine Below.alloc ?_ (by have := hb0.size; first | (simp; done) | (simp; omega) | omega) _ | with_reducible refine Below.setCell ?_ (by first | (simp; done) | (simp; omega) | omega) _)) hc1
  clear hc1 hb0
  go_loopw [5] (fun q wr => ∃ (k : Nat) (u : V8), 64 * k ≤ n ∧ q = .int .i64 ((64 * k : Nat) : Int) ∧ Hid (u.list = grindN v.list bs k) ∧ Below w.heap.size w wr ∧ Blk wr w.heap.size 93 (u.list.map (Value.int .u32)) ∧ Blk wr (w.heap.size + 1) 93 (List.replicate 8 (Value.int .u32 0))) (fun q _ => n + 64 - (intOf q).toNat)
  case atStart => exact ⟨0, v, by omega, rfl, hid rfl, hb1, hH, hR⟩
  case round =>
    clear hH hR
    obtain ⟨k, u, hk, rfl, Hu, hbw, hH, hR⟩ := hrel
    have Hok : Hid u.ok := hid (by
      have h1 : Rng32 u.list := by rw [Hu.out]; exact grindN_rng HV.out.list bs k
      have := V8.of_ok h1
      exact this)
    obtain ⟨p, hp⟩ : ∃ p : Nat, p = 64 * k := ⟨_, rfl⟩
    rw [← hp]
    by_cases hlt : p + 64 ≤ n
    · have hlt' : (p : Int) + 64 ≤ (n : Int) := by omega
      obtain ⟨b, o, rfl, hcell⟩ := hc.int (by have := HN.out; omega)
      clear hcell
      obtain ⟨p2, hp2⟩ : ∃ p2 : Nat, p2 = p + 64 := ⟨_, rfl⟩
      have hw2 : IntKind.i64.wrap ((p : Int) + 64) = (p2 : Int) := by rw [IntKind.wrap_i64]; omega
      have hsl := slice_mid (P := Tryd.prog) ht_bytes hsz_bytes b o n c p p2 (by omega) (by omega)
      have hlt2 : (p2 : Int) ≤ (n : Int) := by omega
      have hd64 : p2 - p = 64 := by omega
      rw [hd64] at hsl
      have hbs : CellsAt wr (some ⟨b, o + p, none⟩) (((bs.drop p).take 64).map (Value.int .u8)) := by
        have h1 := ((hc.later hbw).dropK p).takeK 64
        rwa [← List.map_drop, ← List.map_take] at h1
      have hbl : 64 = ((bs.drop p).take 64).length := by rw [List.length_take, List.length_drop, ← HN.out]; omega
      have m0 := hH.cell (j := 0) (v := .int .u32 u.a) rfl
      have mf0 := hH.free 0
      have m1 := hH.cell (j := 1) (v := .int .u32 u.b) rfl
      have mf1 := hH.free 1
      have m2 := hH.cell (j := 2) (v := .int .u32 u.c) rfl
      have mf2 := hH.free 2
      have m3 := hH.cell (j := 3) (v := .int .u32 u.d) rfl
      have mf3 := hH.free 3
      have m4 := hH.cell (j := 4) (v := .int .u32 u.e) rfl
      have mf4 := hH.free 4
      have m5 := hH.cell (j := 5) (v := .int .u32 u.f) rfl
      have mf5 := hH.free 5
      have m6 := hH.cell (j := 6) (v := .int .u32 u.g) rfl
      have mf6 := hH.free 6
      have m7 := hH.cell (j := 7) (v := .int .u32 u.z) rfl
      have mf7 := hH.free 7
      have H_hp := hid hp
      have H_hp2 := hid hp2
      have H_hd64 := hid hd64
      have H_hbl := hid hbl
      clear hp hp2 hd64 hbl
      have Hg := hid (fun ww (h : Below wr.heap.size wr ww) => ground_any u ((bs.drop p).take 64) (some ⟨b, o + p, none⟩) 64 (c - p) ww Hok.out H_hbl.out (Nat.le_refl _) (hbs.later h) ((hb.drop p).take 64))
      go_wp2_with fail
      go_region_with ((first | (go_at_call 75; with_reducible refine (Hg.out _ (Below.drew (Below.refl _ _))).mono ?_; rintro e w3 ⟨u3, rfl, Hu3, hc3⟩; (have hst3 : Below wr.heap.size wr w3 := bchain (by repeat' (first | with_reducible exact Below.refl _ _ | with_reducible refine Below.drew ?_)) hc3); (have hH3 := hH.later hst3); (have hR3 := hR.later hst3); (have q0 := hH3.cell (j := 0) (v := .int .u32 u.a) rfl); (have qf0 := hH3.free 0); (have q1 := hH3.cell (j := 1) (v := .int .u32 u.b) rfl); (have qf1 := hH3.free 1); (have q2 := hH3.cell (j := 2) (v := .int .u32 u.c) rfl); (have qf2 := hH3.free 2); (have q3 := hH3.cell (j := 3) (v := .int .u32 u.d) rfl); (have qf3 := hH3.free 3); (have q4 := hH3.cell (j := 4) (v := .int .u32 u.e) rfl); (have qf4 := hH3.free 4); (have q5 := hH3.cell (j := 5) (v := .int .u32 u.f) rfl); (have qf5 := hH3.free 5); (have q6 := hH3.cell (j := 6) (v := .int .u32 u.g) rfl); (have qf6 := hH3.free 6); (have q7 := hH3.cell (j := 7) (v := .int .u32 u.z) rfl); (have qf7 := hH3.free 7); skip)))
      all_goals
        have Hu3' := hid Hu3
        clear Hu3
        go_wp2_with fail
        go_roundw
        case rel =>
          refine ⟨k + 1, u3, by have := H_hp.out; omega, congrArg (Value.int .i64) (by have := H_hp.out; have := H_hp2.out; omega), hid ?_, ?_, ?_, ?_⟩
          · rw [Hu3'.out, Hu.out, H_hp.out, ground_take]; rfl
          · have hb3 : Below w.heap.size w w3 := bchain hbw hst3
            repeat' (first | with_reducible exact hb3 | with_reducible refine Below.drew ?_ | with_reducible refine Below.setCell ?_ (by first | (simp; done) | (simp; omega) | omega) _)
          · exact (((((((hH3.set 0 _).set 1 _).set 2 _).set 3 _).set 4 _).set 5 _).set 6 _).set 7 _
          · repeat' (first | with_reducible exact hR3 | (refine Blk.setFar ?_ (by simp) _))
        case measure => have := H_hp2.out; simp [intOf]; omega
    · have hpb : (p : Int) ≤ 140737488355328 := by omega
      have hge2 : (n : Int) < (p : Int) + 64 := by omega
      have hkk : bs.length / 64 = k := by rw [← HN.out]; omega
      have m0 := hH.cell (j := 0) (v := .int .u32 u.a) rfl
      have m1 := hH.cell (j := 1) (v := .int .u32 u.b) rfl
      have m2 := hH.cell (j := 2) (v := .int .u32 u.c) rfl
      have m3 := hH.cell (j := 3) (v := .int .u32 u.d) rfl
      have m4 := hH.cell (j := 4) (v := .int .u32 u.e) rfl
      have m5 := hH.cell (j := 5) (v := .int .u32 u.f) rfl
      have m6 := hH.cell (j := 6) (v := .int .u32 u.g) rfl
      have m7 := hH.cell (j := 7) (v := .int .u32 u.z) rfl
      have r0 := hR.cell (j := 0) (v := .int .u32 0) rfl
      have rf0 := hR.free 0
      have r1 := hR.cell (j := 1) (v := .int .u32 0) rfl
      have rf1 := hR.free 1
      have r2 := hR.cell (j := 2) (v := .int .u32 0) rfl
      have rf2 := hR.free 2
      have r3 := hR.cell (j := 3) (v := .int .u32 0) rfl
      have rf3 := hR.free 3
      have r4 := hR.cell (j := 4) (v := .int .u32 0) rfl
      have rf4 := hR.free 4
      have r5 := hR.cell (j := 5) (v := .int .u32 0) rfl
      have rf5 := hR.free 5
      have r6 := hR.cell (j := 6) (v := .int .u32 0) rfl
      have rf6 := hR.free 6
      have r7 := hR.cell (j := 7) (v := .int .u32 0) rfl
      have rf7 := hR.free 7
      have H_hp := hid hp
      have H_hkk := hid hkk
      clear hp hkk
      go_wp2_with fail
      refine bodyPost_ret (v := .agg #[.int .u32 u.a, .int .u32 u.b, .int .u32 u.c, .int .u32 u.d, .int .u32 u.e, .int .u32 u.f, .int .u32 u.g, .int .u32 u.z]) (by simp [results, Tryd.results68, go_sem, *]) rfl ⟨u, rfl, by rw [Hu.out]; unfold mill; rw [H_hkk.out], ?_⟩
      repeat' (first | with_reducible exact hbw | with_reducible refine Below.drew ?_ | with_reducible refine Below.setCell ?_ (by first | (simp; done) | (simp; omega) | omega) _)

end Go.Proofs.YtfabcdpmnbeflaaDoor
