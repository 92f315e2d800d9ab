/- Bytes put behind those of a mill. -/
import Derived.Test.YtfabcdpmnbeflaaDoorDigGrind
import Derived.Test.YtfabcdpmnbeflaaDoorDigConcat
import Derived.Deep.RegionHeld3
namespace Go.Proofs.YtfabcdpmnbeflaaDoor
set_option maxRecDepth 100000
set_option linter.unusedSimpArgs false
set_option linter.unusedVariables false
set_option linter.unnecessarySimpa false
open Go.RowKit

/-- The words after k blocks of the bytes were ground. -/
def grindN (hs bs : List Int) : Nat → List Int
  | 0 => hs
  | k + 1 => ground (grindN hs bs k) (bs.drop (64 * k))
def mill (hs bs : List Int) : List Int := grindN hs bs (bs.length / 64)
theorem grindN_len (hs bs : List Int) : ∀ k, (grindN hs bs k).length = hs.length
  | 0 => rfl
  | k + 1 => by rw [grindN, ground_len]; exact grindN_len hs bs k
theorem grindN_rng {hs : List Int} (h : Rng32 hs) (bs : List Int) : ∀ k, Rng32 (grindN hs bs k)
  | 0 => h
  | k + 1 => ground_rng (grindN_rng h bs k) _
theorem V8.of_list (l : List Int) (h : l.length = 8) : ∃ v : V8, v.list = l := by
  match l, h with
  | [a, b, c, d, e, f, g, z], _ => exact ⟨⟨a, b, c, d, e, f, g, z⟩, rfl⟩
def Bytes8 (l : List Int) : Prop := ∀ x ∈ l, 0 ≤ x ∧ x < 256
theorem Bytes8.drop {l : List Int} (h : Bytes8 l) (k : Nat) : Bytes8 (l.drop k) := fun x hx => h x (List.mem_of_mem_drop hx)
theorem Bytes8.take {l : List Int} (h : Bytes8 l) (k : Nat) : Bytes8 (l.take k) := fun x hx => h x (List.mem_of_mem_take hx)
theorem Bytes8.append {l m : List Int} (h : Bytes8 l) (k : Bytes8 m) : Bytes8 (l ++ m) := fun x hx => (List.mem_append.1 hx).elim (h x) (k x)
theorem ht_bytes : Tryd.prog.underlying 39 = some (.slice (Tryd.prog.elem 39)) := by kernel_rfl
theorem hsz_bytes (w : World) : (sizeOf (Tryd.prog.elem 39)).run Tryd.prog w = .ok 1 w := by kernel_rfl
theorem CellsAt.dropAt {w : World} {a : Option Addr} {cs : List Value} (h : CellsAt w a cs) (k : Nat) (hk : cs.length ≤ k) : CellsAt w a (cs.drop k) := by left; rw [List.drop_eq_nil_iff]; exact hk

def sliceLen8 : Value → Nat
  | .slice _ n _ => n
  | _ => 0
set_option maxRecDepth 100000 in
set_option maxHeartbeats 4000000 in
theorem feed_any (v : V8) (rs ys : List Int) (N : Int) (ra ba : Option Addr) (rn rc bn bc : Nat) (w : World) (hv : v.ok) (hrn : rn = rs.length) (hbn : bn = ys.length) (hr : CellsAt w ra (rs.map (Value.int .u8))) (hy : CellsAt w ba (ys.map (Value.int .u8)))
    (hr8 : Bytes8 rs) (hy8 : Bytes8 ys) (hK : CellsAt w (some ⟨1, 0, none⟩) (kcs.map (Value.int .u32))) (hw0 : 1 < w.heap.size) (hb : rn + bn ≤ 140737488355327) (hN0 : 0 ≤ N) (hN1 : N ≤ 1000000) :
    Calls Tryd.prog 64 #[.agg #[.int .u32 v.a, .int .u32 v.b, .int .u32 v.c, .int .u32 v.d, .int .u32 v.e, .int .u32 v.f, .int .u32 v.g, .int .u32 v.z, .slice ra rn rc, .int .i64 N], .slice ba bn bc] w fun e w' =>
      ∃ (u : V8) (a' : Option Addr) (m c' : Nat), e = .returned (.agg #[.int .u32 u.a, .int .u32 u.b, .int .u32 u.c, .int .u32 u.d, .int .u32 u.e, .int .u32 u.f, .int .u32 u.g, .int .u32 u.z, .slice a' m c', .int .i64 (N + bn)]) ∧ u.list = mill v.list (rs ++ ys) ∧ m = (rs ++ ys).length % 64 ∧ OwnX w' w.heap.size 5 1 (.slice a' m c') m (((rs ++ ys).drop ((rs ++ ys).length / 64 * 64)).map (Value.int .u8)) ∧ Below w.heap.size w w' := by
  have HV := hid hv
  have HRN := hid hrn
  have HBN := hid hbn
  clear hv hrn hbn
  go_enter Tryd.func64, Tryd.ntmps64
  have hb0 := Below.refl w.heap.size w
  go_upto_region 1 with fail
  refine wp_gen fun w1 hc1 => ?_
  have hM : Blk w1 w.heap.size 95 (v.list.map (Value.int .u32) ++ [.slice ra rn rc, .int .i64 N]) := Blk.later ((Blk.newA w _ _ _ (v.list.map (Value.int .u32) ++ [.slice ra rn rc, .int .i64 N]) rfl (by rfl)).alloc _) hc1
  have hR : Blk w1 (w.heap.size + 1) 95 (List.replicate 8 (Value.int .u32 0) ++ [.slice none 0 0, .int .i64 0]) := Blk.later (Blk.newA _ _ _ _ (List.replicate 8 (Value.int .u32 0) ++ [.slice none 0 0, .int .i64 0]) (by simp) (by rfl)) hc1
  have hr1 : CellsAt w1 ra (rs.map (Value.int .u8)) := hr.later (bchain (by repeat' (first | with_reducible exact hb0 | with_reducible refine Below.drew ?_ | with_reducible refine below_drewN ?_ _ | with_reducible refine Below.alloc ?_ (by have := hb0.size; first | (simp; done) | (simp; omega) | omega) _ | with_reducible refine Below.setCell ?_ (by first | (simp; done) | (simp; omega) | omega) _)) hc1)
  have hy1 : CellsAt w1 ba (ys.map (Value.int .u8)) := hy.later (bchain (by repeat' (first | with_reducible exact hb0 | with_reducible refine Below.drew ?_ | with_reducible refine below_drewN ?_ _ | with_reducible refine Below.alloc ?_ (by have := hb0.size; first | (simp; done) | (simp; omega) | omega) _ | with_reducible refine Below.setCell ?_ (by first | (simp; done) | (simp; omega) | omega) _)) hc1)
  have hK1 : CellsAt w1 (some ⟨1, 0, none⟩) (kcs.map (Value.int .u32)) := hK.later (bchain (by repeat' (first | with_reducible exact hb0 | with_reducible refine Below.drew ?_ | with_reducible refine below_drewN ?_ _ | with_reducible refine Below.alloc ?_ (by have := hb0.size; first | (simp; done) | (simp; omega) | omega) _ | with_reducible refine Below.setCell ?_ (by first | (simp; done) | (simp; omega) | omega) _)) hc1)
  have hb1 : Below w.heap.size w w1 := bchain (by repeat' (first | with_reducible exact hb0 | with_reducible refine Below.drew ?_ | with_reducible refine below_drewN ?_ _ | with_reducible refine Below.alloc ?_ (by have := hb0.size; first | (simp; done) | (simp; omega) | omega) _ | with_reducible refine Below.setCell ?_ (by first | (simp; done) | (simp; omega) | omega) _)) hc1
  clear hc1 hr hy hK hb0
  have zR1 := hR.lt
  have m8 := hM.cell (j := 8) (v := .slice ra rn rc) rfl
  go_wp2_with fail
  with_reducible refine (concat2_any w1.heap.size ra ba rn bn rc bc rs ys _ HRN.out HBN.out (by go_simp) (by go_simp) (by repeat' (first | with_reducible exact hr1 | with_reducible refine CellsAt.setFar ?_ ?_ _ | with_reducible refine CellsAt.alloc ?_ _ | with_reducible refine CellsAt.drew ?_ | with_reducible refine CellsAt.drewN ?_ _ | assumption | (simp; omega) | omega)) (by repeat' (first | with_reducible exact hy1 | with_reducible refine CellsAt.setFar ?_ ?_ _ | with_reducible refine CellsAt.alloc ?_ _ | with_reducible refine CellsAt.drew ?_ | with_reducible refine CellsAt.drewN ?_ _ | assumption | (simp; omega) | omega)) hb).mono ?_
  rintro e w2 ⟨a1, c1, rfl, o1, hc2⟩
  have hb2 : Below w.heap.size w w2 := bchain (by repeat' (first | with_reducible exact hb1 | with_reducible refine Below.drew ?_ | with_reducible refine below_drewN ?_ _ | with_reducible refine Below.alloc ?_ (by have := hb1.size; first | (simp; done) | (simp; omega) | omega) _ | with_reducible refine Below.setCell ?_ (by first | (simp; done) | (simp; omega) | omega) _)) hc2
  have hst2 : Below w1.heap.size w1 w2 := bchain (by repeat' (first | with_reducible exact Below.refl _ _ | with_reducible refine Below.drew ?_ | with_reducible refine below_drewN ?_ _ | with_reducible refine Below.alloc ?_ (by first | (simp; done) | (simp; omega) | omega) _ | with_reducible refine Below.setCell ?_ (by first | (simp; done) | (simp; omega) | omega) _)) hc2
  replace hM := hM.later hst2
  replace hR := hR.later hst2
  replace hr1 := hr1.later hst2
  replace hy1 := hy1.later hst2
  replace hK1 := hK1.later hst2
  clear hst2
  clear hc2 hb1
  clear m8
  clear hr1
  clear hy1
  obtain ⟨bs, hbs⟩ : ∃ bs, bs = rs ++ ys := ⟨_, rfl⟩
  have hb8 : Bytes8 bs := hbs ▸ hr8.append hy8
  have hbl : rn + bn = bs.length := by rw [hbs, List.length_append, ← HRN.out, ← HBN.out]
  obtain ⟨L, hL⟩ : ∃ L, L = rn + bn := ⟨_, rfl⟩
  rw [← hbs, ← hL] at o1
  rw [← hL]
  have hLb : L ≤ 140737488355327 := by omega
  have hLl : L = bs.length := by omega
  have k1 := o1.cells
  have z1 := hb2.size
  have H_hbs := hid hbs
  have H_hbl := hid hbl
  have H_hL := hid hL
  have H_hLl := hid hLl
  clear hbs hbl hL hLl
  obtain ⟨_, _, hcv, hnc1, k1⟩ := o1.cells
  cases hcv
  have hcm : c1 ≤ maxLen := by
    rcases o1.2 with ⟨h1, h2⟩ | ⟨g, cap, cur, h1, h2, h3, h4, h5, h6, h7⟩
    · cases h1; exact Nat.zero_le _
    · cases h1; exact h5
  have p1 : ∀ ad, a1 = some ad → ad.block ≠ w.heap.size := fun ad e => by have := (o1.addr ad e).1; simp only [World.size_alloc] at this; omega
  have p2 : ∀ ad, a1 = some ad → ad.block ≠ w.heap.size + 1 := fun ad e => by have := (o1.addr ad e).1; simp only [World.size_alloc] at this; omega
  clear o1
  go_wp2_with fail
  go_loopw [5] (fun s wr => ∃ (k : Nat) (av : Option Addr) (mm cv : Nat) (hs : List Int), s = .slice av mm cv ∧ Hid (mm + 64 * k = L) ∧ Hid (hs = grindN v.list bs k) ∧ Below w.heap.size w wr ∧ Blk wr w.heap.size 95 (hs.map (Value.int .u32) ++ [.slice ra rn rc, .int .i64 N]) ∧ Blk wr (w.heap.size + 1) 95 (List.replicate 8 (Value.int .u32 0) ++ [.slice none 0 0, .int .i64 0]) ∧ CellsAt wr (some ⟨1, 0, none⟩) (kcs.map (Value.int .u32)) ∧ CellsAt wr av ((bs.drop (64 * k)).map (Value.int .u8)) ∧ (∀ ad, av = some ad → ad.block ≠ w.heap.size) ∧ mm ≤ cv ∧ cv ≤ maxLen) (fun s _ => sliceLen8 s)
  case atStart => exact ⟨0, a1, L, c1, v.list, rfl, hid rfl, hid rfl, hb2, hM, hR, hK1, k1, p1, hnc1, hcm⟩
  case round =>
    clear hM hR hK1 k1 hnc1 hcm z1 p1 p2 zR1
    obtain ⟨k, av, mm, cv, hs, rfl, Hmm, Hhs, hbw, hM, hR, hK1, k1, p1, hnc1, hcm⟩ := hrel
    have Hl8 := hid (show hs.length = 8 by rw [Hhs.out, grindN_len]; rfl)
    have Hrng : Hid (Rng32 hs) := hid (by rw [Hhs.out]; exact grindN_rng HV.out.list bs k)
    have hmml : mm = (bs.drop (64 * k)).length := by rw [List.length_drop, ← H_hLl.out]; have := Hmm.out; omega
    have Hmml := hid hmml
    have Hcm := hid hcm
    clear hmml hcm
    by_cases h64 : 64 ≤ mm
    · have h64' : (64 : Int) ≤ (mm : Int) := by omega
      obtain ⟨xb, xo, rfl, hcell⟩ := k1.int (by have := Hmml.out; omega)
      clear hcell
      obtain ⟨⟨bd, od, id⟩, hsl, hadb, hade⟩ := slice_from (P := Tryd.prog) ht_bytes hsz_bytes xb xo mm cv 64 h64 hnc1
      rw [show ((64 : Nat) : Int) = 64 from rfl] at hsl
      have Hgr := hid (grind_any hs [.slice ra rn rc, .int .i64 N] w.heap.size 95 (bs.drop (64 * k)) mm cv (some ⟨xb, xo, none⟩) wr Hl8.out Hrng.out hM (by omega) hK1 h64 (by have := Hmml.out; omega) k1 hnc1 Hcm.out (hb8.drop _))
      have H_hadb := hid hadb
      have H_hade := hid hade
      clear hadb hade
      go_wp2_with fail
      with_reducible refine Hgr.out.mono ?_
      rintro e w3 ⟨rfl, hg, hM3⟩
      have hb3 : Below w.heap.size w w3 := gb_below hg hbw hbw.size (Nat.le_refl _)
      have hR3 := gb_blk hg hR (by omega)
      have hK3 := gb_cells hg hK1 (fun ad e => by cases e; simp; omega)
      have k3 := gb_cells hg k1 p1
      have kD : CellsAt w3 (some ⟨bd, od, id⟩) ((bs.drop (64 * (k + 1))).map (Value.int .u8)) := by
        have e1 : (bs.drop (64 * (k + 1))).map (Value.int .u8) = ((bs.drop (64 * k)).map (Value.int .u8)).drop 64 := by rw [← List.map_drop, List.drop_drop]; rfl
        rw [e1]
        by_cases hlast : 64 < mm
        · rw [H_hade.out hlast]; exact k3.dropK 64
        · left; rw [List.drop_eq_nil_iff, List.length_map, ← Hmml.out]; omega
      have pD : ∀ ad, some (Addr.mk bd od id) = some ad → ad.block ≠ w.heap.size := fun ad e => by cases e; exact fun h => p1 _ rfl (H_hadb.out.symm.trans h)
      clear hM hR hK1 k1
      go_wp2_with fail
      go_roundw
      case rel => exact ⟨k + 1, some ⟨bd, od, id⟩, mm - 64, cv - 64, ground hs (bs.drop (64 * k)), rfl, hid (by have := Hmm.out; omega), hid (by rw [Hhs.out]; rfl), hb3, hM3, hR3, hK3, kD, pD, by omega, by have := Hcm.out; omega⟩
      case measure => simp [sliceLen8]; omega
    · have h64' : (mm : Int) < 64 := by omega
      go_upto_region 5 with fail
      obtain ⟨u, hu⟩ := V8.of_list hs Hl8.out
      rw [← hu] at hM
      have Hu := hid hu
      clear hu
      have m9 : wr.cell? ⟨w.heap.size, 9, none⟩ = some (.int .i64 N) := hM.cell rfl
      have hdl := hid (show (bs.drop (64 * k)).length ≤ 140737488355327 by rw [List.length_drop, ← H_hLl.out]; omega)
      have hwN : IntKind.i64.wrap (N + (bn : Int)) = N + (bn : Int) := IntWalk.i64_in _ (by omega)
      go_region_with ((first | (go_at_call 74; with_reducible refine (clone8_any av mm cv (bs.drop (64 * k)) _ Hmml.out (by repeat' (first | with_reducible exact k1 | with_reducible refine CellsAt.setFar ?_ ?_ _ | with_reducible refine CellsAt.alloc ?_ _ | with_reducible refine CellsAt.drew ?_ | with_reducible refine CellsAt.drewN ?_ _ | assumption | (simp; omega) | omega)) hdl.out).mono ?_; rintro e w3 ⟨a3, c3, rfl, o3, hc3⟩; (have hst3 : Below wr.heap.size wr w3 := bchain (by repeat' (first | with_reducible exact Below.refl _ _ | with_reducible refine Below.drew ?_)) hc3); (have hM3 := hM.later hst3); (have hR3 := hR.later hst3);  (have m0 : w3.cell? ⟨w.heap.size, 0, none⟩ = some (.int .u32 u.a) := hM3.cell rfl); (have m1 : w3.cell? ⟨w.heap.size, 1, none⟩ = some (.int .u32 u.b) := hM3.cell rfl); (have m2 : w3.cell? ⟨w.heap.size, 2, none⟩ = some (.int .u32 u.c) := hM3.cell rfl); (have m3 : w3.cell? ⟨w.heap.size, 3, none⟩ = some (.int .u32 u.d) := hM3.cell rfl); (have m4 : w3.cell? ⟨w.heap.size, 4, none⟩ = some (.int .u32 u.e) := hM3.cell rfl); (have m5 : w3.cell? ⟨w.heap.size, 5, none⟩ = some (.int .u32 u.f) := hM3.cell rfl); (have m6 : w3.cell? ⟨w.heap.size, 6, none⟩ = some (.int .u32 u.g) := hM3.cell rfl); (have m7 : w3.cell? ⟨w.heap.size, 7, none⟩ = some (.int .u32 u.z) := hM3.cell rfl); (have m8 : w3.cell? ⟨w.heap.size, 8, none⟩ = some (.slice ra rn rc) := hM3.cell rfl); (have m9 : w3.cell? ⟨w.heap.size, 9, none⟩ = some (.int .i64 N) := hM3.cell rfl); (have mf0 : w3.frozen? ⟨w.heap.size, 0, none⟩ = false := hM3.free 0); (have mf1 : w3.frozen? ⟨w.heap.size, 1, none⟩ = false := hM3.free 1); (have mf2 : w3.frozen? ⟨w.heap.size, 2, none⟩ = false := hM3.free 2); (have mf3 : w3.frozen? ⟨w.heap.size, 3, none⟩ = false := hM3.free 3); (have mf4 : w3.frozen? ⟨w.heap.size, 4, none⟩ = false := hM3.free 4); (have mf5 : w3.frozen? ⟨w.heap.size, 5, none⟩ = false := hM3.free 5); (have mf6 : w3.frozen? ⟨w.heap.size, 6, none⟩ = false := hM3.free 6); (have mf7 : w3.frozen? ⟨w.heap.size, 7, none⟩ = false := hM3.free 7); (have mf8 : w3.frozen? ⟨w.heap.size, 8, none⟩ = false := hM3.free 8); (have mf9 : w3.frozen? ⟨w.heap.size, 9, none⟩ = false := hM3.free 9); (have r0 : w3.cell? ⟨w.heap.size + 1, 0, none⟩ = some (.int .u32 0) := hR3.cell rfl); (have r1 : w3.cell? ⟨w.heap.size + 1, 1, none⟩ = some (.int .u32 0) := hR3.cell rfl); (have r2 : w3.cell? ⟨w.heap.size + 1, 2, none⟩ = some (.int .u32 0) := hR3.cell rfl); (have r3 : w3.cell? ⟨w.heap.size + 1, 3, none⟩ = some (.int .u32 0) := hR3.cell rfl); (have r4 : w3.cell? ⟨w.heap.size + 1, 4, none⟩ = some (.int .u32 0) := hR3.cell rfl); (have r5 : w3.cell? ⟨w.heap.size + 1, 5, none⟩ = some (.int .u32 0) := hR3.cell rfl); (have r6 : w3.cell? ⟨w.heap.size + 1, 6, none⟩ = some (.int .u32 0) := hR3.cell rfl); (have r7 : w3.cell? ⟨w.heap.size + 1, 7, none⟩ = some (.int .u32 0) := hR3.cell rfl); (have r8 : w3.cell? ⟨w.heap.size + 1, 8, none⟩ = some (.slice none 0 0) := hR3.cell rfl); (have r9 : w3.cell? ⟨w.heap.size + 1, 9, none⟩ = some (.int .i64 0) := hR3.cell rfl); (have rf0 : w3.frozen? ⟨w.heap.size + 1, 0, none⟩ = false := hR3.free 0); (have rf1 : w3.frozen? ⟨w.heap.size + 1, 1, none⟩ = false := hR3.free 1); (have rf2 : w3.frozen? ⟨w.heap.size + 1, 2, none⟩ = false := hR3.free 2); (have rf3 : w3.frozen? ⟨w.heap.size + 1, 3, none⟩ = false := hR3.free 3); (have rf4 : w3.frozen? ⟨w.heap.size + 1, 4, none⟩ = false := hR3.free 4); (have rf5 : w3.frozen? ⟨w.heap.size + 1, 5, none⟩ = false := hR3.free 5); (have rf6 : w3.frozen? ⟨w.heap.size + 1, 6, none⟩ = false := hR3.free 6); (have rf7 : w3.frozen? ⟨w.heap.size + 1, 7, none⟩ = false := hR3.free 7); (have rf8 : w3.frozen? ⟨w.heap.size + 1, 8, none⟩ = false := hR3.free 8); (have rf9 : w3.frozen? ⟨w.heap.size + 1, 9, none⟩ = false := hR3.free 9); (have z3 := hst3.size))))
      all_goals go_wp2_with fail
      all_goals
        have hk : (rs ++ ys).length / 64 = k ∧ (rs ++ ys).length % 64 = mm := by rw [← H_hbs.out, ← H_hLl.out]; have := Hmm.out; omega
        have hne1 : ∀ kk, (Value.slice a3 mm c3).ownBlock = some kk → wr.heap.size ≤ kk := fun kk hkk => by have := (o3.lt kk hkk).1; simpa using this
        have zHr : w.heap.size + 1 < wr.heap.size := hR.lt
        have hneH : (Value.slice a3 mm c3).ownBlock ≠ some w.heap.size := fun e => by have := hne1 _ e; omega
        have hneR : (Value.slice a3 mm c3).ownBlock ≠ some (w.heap.size + 1) := fun e => by have := hne1 _ e; omega
        have hb3 : Below w.heap.size w w3 := bchain hbw hst3
        have o3' : OwnX w3 w.heap.size 5 1 (.slice a3 mm c3) mm (((rs ++ ys).drop ((rs ++ ys).length / 64 * 64)).map (Value.int .u8)) := by
          rw [hk.1, ← H_hbs.out, Nat.mul_comm]
          exact o3.mono (by simp; omega)
        refine bodyPost_ret (v := .agg #[.int .u32 u.a, .int .u32 u.b, .int .u32 u.c, .int .u32 u.d, .int .u32 u.e, .int .u32 u.f, .int .u32 u.g, .int .u32 u.z, .slice a3 mm c3, .int .i64 (N + (bn : Int))]) (by simp [results, Tryd.results64, go_sem, *]) rfl ⟨u, a3, mm, c3, rfl, ?_, hk.2.symm, ?_, ?_⟩
        · rw [Hu.out, Hhs.out]; unfold mill; rw [hk.1, H_hbs.out]
        · repeat' (first | with_reducible exact o3' | with_reducible refine OwnX.drew ?_ | (refine OwnX.setFar ?_ hneH _) | (refine OwnX.setFar ?_ hneR _))
        · repeat' (first | with_reducible exact hb3 | with_reducible refine Below.drew ?_ | with_reducible refine Below.setCell ?_ (by first | (simp; done) | (simp; omega) | omega) _)

end Go.Proofs.YtfabcdpmnbeflaaDoor
