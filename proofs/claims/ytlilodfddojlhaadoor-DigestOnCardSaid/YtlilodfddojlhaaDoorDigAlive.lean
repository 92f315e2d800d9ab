/- The chapter's examples hold. -/
import Derived.Test.YtlilodfddojlhaaDoorDigIs
import Derived.Test.YtlilodfddojlhaaDoorDigKnown
import Derived.Test.YtlilodfddojlhaaDoorRegMore
namespace Go.Proofs.YtlilodfddojlhaaDoor
set_option linter.unusedSimpArgs false
set_option linter.unusedVariables false
set_option linter.unnecessarySimpa false
open Go.RowKit

def dAbc : List Int := [186, 120, 22, 191, 143, 1, 207, 234, 65, 65, 64, 222, 93, 174, 34, 35, 176, 3, 97, 163, 150, 23, 122, 156, 180, 16, 255, 97, 242, 0, 21, 173]
def dNil : List Int := [227, 176, 196, 66, 152, 252, 28, 20, 154, 251, 244, 200, 153, 111, 185, 36, 39, 174, 65, 228, 100, 155, 147, 76, 164, 149, 153, 27, 120, 82, 184, 85]
theorem b8_of {l : List Int} (h : (l.all fun x => decide (0 ≤ x ∧ x < 256)) = true) : Bytes8 l := fun x hx => by simpa using List.all_eq_true.1 h x hx
theorem Calls_gen {P : Program} {f : FuncId} {args : Array Value} {w : World} {Q : Ending → World → Prop} (h : ∀ w', Below w.heap.size w w' → Calls P f args w' Q) : Calls P f args w Q := h w (Below.refl _ _)
theorem sum_abc : sumP [[97, 98, 99]] = (dAbc, 0) := by
  unfold sumP
  rw [if_neg (by simp [longB])]
  show (ofL [97, 98, 99], (0 : Int)) = _
  rw [known_abc]; rfl
theorem sum_abc3 : sumP [[97], [], [98, 99]] = (dAbc, 0) := by
  unfold sumP
  rw [if_neg (by simp [longB])]
  show (ofL [97, 98, 99], (0 : Int)) = _
  rw [known_abc]; rfl
theorem sum_nil : sumP [[]] = (dNil, 0) := by
  unfold sumP
  rw [if_neg (by simp [longB])]
  show (ofL [], (0 : Int)) = _
  rw [known_0]; rfl
theorem sum_nilS : sumP [numsOf ⟨#[]⟩] = (dNil, 0) := by
  rw [show numsOf ⟨#[]⟩ = [] by decide]; exact sum_nil
theorem sum_abcS : sumP [numsOf ⟨#[97, 98, 99]⟩] = (dAbc, 0) := by
  rw [show numsOf ⟨#[97, 98, 99]⟩ = [97, 98, 99] by decide]; exact sum_abc
theorem pieces_r {l : List (List Int)} {dl : List Int} {dv : List Value} {de : Int} (hD : sumP l = (dl, de)) (hdv : dv = dl.map (Value.int .u8)) (vs : List Value) (a : Option Addr) (n c : Nat) (w : World) (hP : PiecesIn w a vs l) (hn : n = l.length) (hK : CellsAt w (some ⟨0, 0, none⟩) (kcs.map (Value.int .u32))) (hw0 : 0 < w.heap.size) :
    Calls Tryd.prog 21 #[.slice a n c] w fun e w' =>
      e = .returned (.tuple #[.agg dv.toArray, .int .i64 de]) ∧ Below w.heap.size w w' := by
  have := pieces_any l vs a n c w hP hn hK hw0
  rw [hD, idE_mk, ← hdv] at this; exact this
theorem add65 : addM v0c.list [] 0 (List.replicate 65 0) = (mill v0c.list (List.replicate 65 0), [0], 65, 0) := by
  unfold addM
  rw [if_neg (by decide), if_neg (by simp)]
  rfl
/-- A mill with one byte of rest, and no error. -/
def VM65 (u : V8) : Value → World → Prop := fun v _ => ∃ a c, v = .tuple #[.agg #[.int .u32 u.a, .int .u32 u.b, .int .u32 u.c, .int .u32 u.d, .int .u32 u.e, .int .u32 u.f, .int .u32 u.g, .int .u32 u.z, .slice a 1 c, .int .i64 65], .int .i64 0]
theorem VM65.last {u : V8} (v : Value) (w w' : World) (h : VM65 u v w) (_ : Below w.heap.size w w') : VM65 u v w' := h
/-- Such a mill, stored. -/
def VS65 (u : V8) (p : Value) : Value → World → Prop := fun _ w => ∃ b a c, p = .pointer (some ⟨b, 0, none⟩) ∧ Blk w b 26 [.int .u32 u.a, .int .u32 u.b, .int .u32 u.c, .int .u32 u.d, .int .u32 u.e, .int .u32 u.f, .int .u32 u.g, .int .u32 u.z, .slice a 1 c, .int .i64 65]
theorem VS65.last {u : V8} {p : Value} (v : Value) (w w' : World) (h : VS65 u p v w) (hb : Below w.heap.size w w') : VS65 u p v w' :=
  let ⟨b, a, c, h1, h2⟩ := h
  ⟨b, a, c, h1, h2.later hb⟩

set_option maxRecDepth 100000 in
set_option maxHeartbeats 4000000 in
theorem alive_any (w : World) (hK : CellsAt w (some ⟨0, 0, none⟩) (kcs.map (Value.int .u32))) (hw0 : 0 < w.heap.size) :
    Calls Tryd.prog 25 #[] w fun e w' =>
      e = .returned (.bool true) ∧ Below w.heap.size w w' := by
  obtain ⟨dv, hdv⟩ : ∃ dv, dv = dAbc.map (Value.int .u8) := ⟨_, rfl⟩
  have hvl : dv.length = 32 := by rw [hdv]; rfl
  have ho : ∀ x ∈ dv, x.oneCell' = true := by rw [hdv]; exact oneCell_ints _ _
  have hi2 : (Tryd.prog.info? 33).map (·.size) = some dv.length := by rw [hvl]; exact info32
  have hlr : dv.length = (List.replicate 32 (Value.int .u8 0)).length := by rw [hvl]; rfl
  have heq : ∀ w, (Op.equalIn 10000 33 (.agg dv.toArray) (.agg dv.toArray)).run Tryd.prog w = .ok true w := fun w => by
    rw [hdv, eq_ids dAbc dAbc rfl rfl]; simp
  obtain ⟨u, hu⟩ := V8.of_list (mill v0c.list (List.replicate 65 0)) ((grindN_len _ _ _).trans rfl)
  have HE := hid heq
  obtain ⟨i0, hi, hz0, hz1, hz2⟩ := info_parts info_u8
  have hwf : ∀ W, Below w.heap.size w W → 0 < W.heap.size := fun W h => Nat.lt_of_lt_of_le hw0 h.size
  have H_hdv := hid hdv
  have H_hvl := hid hvl
  have H_ho := hid ho
  have H_hi2 := hid hi2
  have H_hlr := hid hlr
  have H_hu := hid hu
  clear hdv hvl ho hi2 hlr hu
  clear heq
  go_enter Tryd.func25, Tryd.ntmps25
  have hb0 := Below.refl w.heap.size w
  have hcv := run_same_bytes (P := Tryd.prog) w 24 5 #[.int .u8 97, .int .u8 98, .int .u8 99] 3 3 _ rfl Tryd.underlying24 Tryd.underlying5
  go_wp2_with fail
  have kA := row_cells w (([97, 98, 99] : List Int).map (Value.int .u8)) 5 (3, 4) _ rfl #[.int .u8 97, .int .u8 98, .int .u8 99] rfl
  clear hcv
  with_reducible refine (sum_r sum_abc H_hdv.out (some ⟨w.heap.size, 0, none⟩) 3 3 _ rfl kA (b8_of (by decide)) (by simp [maxLen]) ((by repeat' (first | with_reducible exact hK | with_reducible refine CellsAt.setFar ?_ ?_ _ | with_reducible refine CellsAt.alloc ?_ _ | with_reducible refine CellsAt.drew ?_ | with_reducible refine CellsAt.drewN ?_ _ | assumption | (simp; omega) | omega))) (by simp)).mono ?_
  rintro e w1 ⟨rfl, hc1⟩
  have hb1 : Below w.heap.size w w1 := bchain (by repeat' (first | with_reducible exact hb0 | with_reducible refine Below.drew ?_ | with_reducible refine below_drewN ?_ _ | with_reducible refine Below.alloc ?_ (by have := hb0.size; first | (simp; done) | (simp; omega) | omega) _ | with_reducible refine Below.setCell ?_ (by first | (simp; done) | (simp; omega) | omega) _)) hc1
  clear hc1 kA
  have hN1 := Blk.new w1 w1.heap.size (List.replicate 32 (Value.int .u8 0)) 33 rfl
  go_upto_region 2 with (refine wpList_store_blk rfl 33 _ _ rfl w1.heap.size (by rfl) 33 _ dv (by rfl) hN1 H_hlr.out H_hi2.out H_ho.out ?_; intro w2 hD2 he2; have H2 := hid he2; clear he2)
  have hc2 : Below w1.heap.size w1 w2 := H2.out ▸ below_setCells (Nat.le_refl _) _ _ _ ((Below.refl _ _).alloc (Nat.le_refl _) _)
  clear hN1
  have hb2 : Below w.heap.size w w2 := bchain (by repeat' (first | with_reducible exact hb1 | with_reducible refine Below.drew ?_ | with_reducible refine below_drewN ?_ _ | with_reducible refine Below.alloc ?_ (by have := hb1.size; first | (simp; done) | (simp; omega) | omega) _ | with_reducible refine Below.setCell ?_ (by first | (simp; done) | (simp; omega) | omega) _)) hc2
  clear hc2 H2
  have hcv1 := run_same_bytes (P := Tryd.prog) w2 24 5 #[.int .u8 97] 1 1 _ rfl Tryd.underlying24 Tryd.underlying5
  have hcv2 := run_same_bytes (P := Tryd.prog) (w2.alloc (.cells #[.int .u8 97] 5 (1, 2))) 24 5 #[.int .u8 98, .int .u8 99] 2 2 (w2.heap.size + 1) (by simp) Tryd.underlying24 Tryd.underlying5
  go_wp2_with fail
  clear hcv1 hcv2
  refine Calls_gen fun w3 hc3 => ?_
  have kp1 := ((((row_cells w2 (([97] : List Int).map (Value.int .u8)) 5 (1, 2) _ rfl #[.int .u8 97] rfl).alloc (.cells #[.int .u8 98, .int .u8 99] 5 (2, 3))).alloc (.cells #[.slice (some ⟨w2.heap.size, 0, none⟩) 1 1, .slice none 0 0, .slice (some ⟨w2.heap.size + 1, 0, none⟩) 2 2] 24))).later hc3
  have kp2 := ((row_cells (w2.alloc (.cells #[.int .u8 97] 5 (1, 2))) (([98, 99] : List Int).map (Value.int .u8)) 5 (2, 3) (w2.heap.size + 1) (by simp) #[.int .u8 98, .int .u8 99] rfl).alloc (.cells #[.slice (some ⟨w2.heap.size, 0, none⟩) 1 1, .slice none 0 0, .slice (some ⟨w2.heap.size + 1, 0, none⟩) 2 2] 24)).later hc3
  have kp3 := (row_cells ((w2.alloc (.cells #[.int .u8 97] 5 (1, 2))).alloc (.cells #[.int .u8 98, .int .u8 99] 5 (2, 3))) [.slice (some ⟨w2.heap.size, 0, none⟩) 1 1, .slice none 0 0, .slice (some ⟨w2.heap.size + 1, 0, none⟩) 2 2] 24 (0, 0) (w2.heap.size + 1 + 1) (by simp) #[.slice (some ⟨w2.heap.size, 0, none⟩) 1 1, .slice none 0 0, .slice (some ⟨w2.heap.size + 1, 0, none⟩) 2 2] rfl).later hc3
  have hP : PiecesIn w3 (some ⟨w2.heap.size + 1 + 1, 0, none⟩) [.slice (some ⟨w2.heap.size, 0, none⟩) 1 1, .slice none 0 0, .slice (some ⟨w2.heap.size + 1, 0, none⟩) 2 2] [[97], [], [98, 99]] :=
    ⟨kp3, ⟨⟨_, _, rfl, kp1, b8_of (by decide), by simp [maxLen]⟩, ⟨_, _, rfl, .inl rfl, b8_of (by decide), by simp [maxLen]⟩, ⟨_, _, rfl, kp2, b8_of (by decide), by simp [maxLen]⟩, trivial⟩, rfl, by simp [maxLen]⟩
  have hb3 : Below w.heap.size w w3 := bchain (by repeat' (first | with_reducible exact hb2 | with_reducible refine Below.drew ?_ | with_reducible refine below_drewN ?_ _ | with_reducible refine Below.alloc ?_ (by have := hb2.size; first | (simp; done) | (simp; omega) | omega) _ | with_reducible refine Below.setCell ?_ (by first | (simp; done) | (simp; omega) | omega) _)) hc3
  have hst3 : Below w2.heap.size w2 w3 := bchain (by repeat' (first | with_reducible exact Below.refl _ _ | with_reducible refine Below.drew ?_ | with_reducible refine below_drewN ?_ _ | with_reducible refine Below.alloc ?_ (by first | (simp; done) | (simp; omega) | omega) _ | with_reducible refine Below.setCell ?_ (by first | (simp; done) | (simp; omega) | omega) _)) hc3
  replace hD2 := hD2.later hst3
  clear hst3
  clear hc3 kp1 kp2 kp3
  with_reducible refine (pieces_r sum_abc3 H_hdv.out _ _ 3 3 _ hP rfl (hK.later hb3) (hwf _ hb3)).mono ?_
  rintro e w4 ⟨rfl, hc4⟩
  have hb4 : Below w.heap.size w w4 := bchain (by repeat' (first | with_reducible exact hb3 | with_reducible refine Below.drew ?_ | with_reducible refine below_drewN ?_ _ | with_reducible refine Below.alloc ?_ (by have := hb3.size; first | (simp; done) | (simp; omega) | omega) _ | with_reducible refine Below.setCell ?_ (by first | (simp; done) | (simp; omega) | omega) _)) hc4
  have hst4 : Below w3.heap.size w3 w4 := bchain (by repeat' (first | with_reducible exact Below.refl _ _ | with_reducible refine Below.drew ?_ | with_reducible refine below_drewN ?_ _ | with_reducible refine Below.alloc ?_ (by first | (simp; done) | (simp; omega) | omega) _ | with_reducible refine Below.setCell ?_ (by first | (simp; done) | (simp; omega) | omega) _)) hc4
  replace hD2 := hD2.later hst4
  clear hst4
  clear hc4 hP
  have hN1 := Blk.new w4 w4.heap.size (List.replicate 32 (Value.int .u8 0)) 33 rfl
  go_upto_region 3 with (refine wpList_store_blk rfl 33 _ _ rfl w4.heap.size (by rfl) 33 _ dv (by rfl) hN1 H_hlr.out H_hi2.out H_ho.out ?_; intro w5 hE5 he5; have H5 := hid he5; clear he5)
  have hc5 : Below w4.heap.size w4 w5 := H5.out ▸ below_setCells (Nat.le_refl _) _ _ _ ((Below.refl _ _).alloc (Nat.le_refl _) _)
  clear hN1
  have hb5 : Below w.heap.size w w5 := bchain (by repeat' (first | with_reducible exact hb4 | with_reducible refine Below.drew ?_ | with_reducible refine below_drewN ?_ _ | with_reducible refine Below.alloc ?_ (by have := hb4.size; first | (simp; done) | (simp; omega) | omega) _ | with_reducible refine Below.setCell ?_ (by first | (simp; done) | (simp; omega) | omega) _)) hc5
  have hst5 : Below w4.heap.size w4 w5 := bchain (by repeat' (first | with_reducible exact Below.refl _ _ | with_reducible refine Below.drew ?_ | with_reducible refine below_drewN ?_ _ | with_reducible refine Below.alloc ?_ (by first | (simp; done) | (simp; omega) | omega) _ | with_reducible refine Below.setCell ?_ (by first | (simp; done) | (simp; omega) | omega) _)) hc5
  replace hD2 := hD2.later hst5
  clear hst5
  clear hc5 H5
  go_wp2_with fail
  refine wp_gen fun w6 hc6 => ?_
  have hb6 : Below w.heap.size w w6 := bchain (by repeat' (first | with_reducible exact hb5 | with_reducible refine Below.drew ?_ | with_reducible refine below_drewN ?_ _ | with_reducible refine Below.alloc ?_ (by have := hb5.size; first | (simp; done) | (simp; omega) | omega) _ | with_reducible refine Below.setCell ?_ (by first | (simp; done) | (simp; omega) | omega) _)) hc6
  have hst6 : Below w5.heap.size w5 w6 := bchain (by repeat' (first | with_reducible exact Below.refl _ _ | with_reducible refine Below.drew ?_ | with_reducible refine below_drewN ?_ _ | with_reducible refine Below.alloc ?_ (by first | (simp; done) | (simp; omega) | omega) _ | with_reducible refine Below.setCell ?_ (by first | (simp; done) | (simp; omega) | omega) _)) hc6
  replace hD2 := hD2.later hst6
  replace hE5 := hE5.later hst6
  clear hst6
  refine wp_region_on_spec_tail [(0, [], fun _ => VIs (.agg #[.int .u32 v0c.a, .int .u32 v0c.b, .int .u32 v0c.c, .int .u32 v0c.d, .int .u32 v0c.e, .int .u32 v0c.f, .int .u32 v0c.g, .int .u32 v0c.z, .slice none 0 0, .int .i64 0])), (1, [], fun _ => VRow 65 ((List.replicate 65 (0 : Int)).map (Value.int .u8))), (2, [], fun _ => VM65 u), (6, [], fun _ => VBlk w6.heap.size 26 [.int .u32 0, .int .u32 0, .int .u32 0, .int .u32 0, .int .u32 0, .int .u32 0, .int .u32 0, .int .u32 0, .slice none 0 0, .int .i64 0]), (7, [5], fun l => VS65 u (l.getD 0 undef))] [0, 1, 2, 6, 7] [7] [(0, []), (1, []), (2, []), (6, []), (7, [5])] 8 (by kernel_rfl) (by kernel_rfl) rfl (by kernel_rfl) rfl (by kernel_rfl) ⟨fun _ => VIs.last, fun _ => VRow.last, fun _ => VM65.last, fun _ => VBlk.last, fun _ => VS65.last, trivial⟩ ?_
  try simp only [List.take_succ_cons, List.take_zero, List.drop_succ_cons, List.drop_zero]
  refine wpSpec_quiet 0 (by kernel_rfl) (by kernel_rfl) ?_
  simp only [List.take_succ_cons, List.take_zero, List.drop_succ_cons, List.drop_zero]
  repeat (go_big_quiet_step (fail))
  refine wpQuiet_nil ?_
  show wpSpec _ _ _ _ _ _ _ _ _ _ _
  refine wpSpec_at [] (VIs (.agg #[.int .u32 v0c.a, .int .u32 v0c.b, .int .u32 v0c.c, .int .u32 v0c.d, .int .u32 v0c.e, .int .u32 v0c.f, .int .u32 v0c.g, .int .u32 v0c.z, .slice none 0 0, .int .i64 0])) rfl (by first | rfl | (simp [viewS, Act.eval]; done)) rfl (by first | rfl | (simp [Region.wanted]; done)) ?_ rfl ?_
  · intro wq hq hfq
    clear hfq
    refine gives_call 15 _ _ #[] rfl (by kernel_rfl) (by simp) ((start_any _).mono ?_)
    rintro e w' ⟨rfl, hb⟩
    exact ⟨_, rfl, hb, rfl⟩
  rintro x0 ⟨_, ⟨_, rfl⟩⟩
  simp only [Act.put, List.setIfInBounds_toArray, List.set_cons_succ, List.set_cons_zero]
  refine wpSpec_at [] (VRow 65 ((List.replicate 65 (0 : Int)).map (Value.int .u8))) rfl (by first | rfl | (simp [viewS, Act.eval]; done)) rfl (by first | rfl | (simp [Region.wanted]; done)) ?_ rfl ?_
  · intro wq hq hfq
    clear hfq
    refine gives_make 24 _ _ rfl 65 65 rfl rfl 5 i0 (.int .u8 0) Tryd.underlying24 hi hz0 hz1 (by rw [hz2]; omega) (by omega) (by omega) rfl ?_
    rintro w' rfl
    refine ⟨(Below.refl _ _).alloc (Nat.le_refl _) _, _, _, rfl, ?_⟩
    exact row_cells wq ((List.replicate 65 (0 : Int)).map (Value.int .u8)) 5 (0, 0) _ rfl _ (by simp)
  rintro x1 ⟨_, ⟨a1, c1, rfl, _⟩⟩
  simp only [Act.put, List.setIfInBounds_toArray, List.set_cons_succ, List.set_cons_zero]
  refine wpSpec_at [] (VM65 u) rfl (by first | rfl | (simp [viewS, Act.eval]; done)) rfl (by first | rfl | (simp [Region.wanted]; done)) ?_ rfl ?_
  · intro wq hq hfq
    have f1 := hfq 1 (by kernel_rfl)
    simp only [upd, Nat.beq, cond] at f1
    clear hfq
    obtain ⟨a1', c1', he1, k1⟩ := f1
    cases he1
    refine gives_call 9 _ _ #[.agg #[.int .u32 v0c.a, .int .u32 v0c.b, .int .u32 v0c.c, .int .u32 v0c.d, .int .u32 v0c.e, .int .u32 v0c.f, .int .u32 v0c.g, .int .u32 v0c.z, .slice none 0 0, .int .i64 0], .slice a1 65 c1] rfl (by kernel_rfl) (by simp [Act.eval]) ((add_r add65 none a1 0 0 65 c1 _ v0c_ok rfl rfl (nilCells _ _ _) k1 (b8_of rfl) (b8_of (by decide)) (hK.later (hb6.trans (hq.mono hb6.size))) (hwf _ (hb6.trans (hq.mono hb6.size))) (by omega)).mono ?_)
    rintro e w' ⟨⟨u', a2, m2, c2, rfl, hu', hm2, _⟩, hb⟩
    refine ⟨_, rfl, hb, a2, c2, ?_⟩
    obtain rfl := V8.inj (hu'.trans H_hu.out.symm)
    obtain rfl : m2 = 1 := hm2
    rfl
  rintro x2 ⟨_, ⟨a2, c2, rfl⟩⟩
  simp only [Act.put, List.setIfInBounds_toArray, List.set_cons_succ, List.set_cons_zero]
  refine wpSpec_quiet 3 (by kernel_rfl) (by kernel_rfl) ?_
  simp only [List.take_succ_cons, List.take_zero, List.drop_succ_cons, List.drop_zero]
  repeat (go_big_quiet_step (fail))
  refine wpQuiet_nil ?_
  show wpSpec _ _ _ _ _ _ _ _ _ _ _
  refine wpSpec_at [] (VBlk w6.heap.size 26 [.int .u32 0, .int .u32 0, .int .u32 0, .int .u32 0, .int .u32 0, .int .u32 0, .int .u32 0, .int .u32 0, .slice none 0 0, .int .i64 0]) rfl (by first | rfl | (simp [viewS, Act.eval]; done)) rfl (by first | rfl | (simp [Region.wanted]; done)) ?_ rfl ?_
  · intro wq hq hfq
    clear hfq
    unfold Oper.gives; go_simp; exact ⟨(Below.refl _ _).alloc (Nat.le_refl _) _, _, rfl, hq.size, Blk.newA _ _ _ _ _ rfl rfl⟩
  rintro x6 ⟨_, ⟨b6, rfl, hb6', _⟩⟩
  simp only [Act.put, List.setIfInBounds_toArray, List.set_cons_succ, List.set_cons_zero]
  refine wpSpec_atD [.pointer (some ⟨b6, 0, none⟩)] (VS65 u (.pointer (some ⟨b6, 0, none⟩))) rfl (by first | rfl | (simp [viewS, Act.eval]; done)) rfl (by first | rfl | (simp [Region.wanted]; done)) ?_ rfl ?_
  · intro wq hq hfq
    have f6 := hfq 6 (by kernel_rfl)
    simp only [upd, Nat.beq, cond] at f6
    clear hfq
    obtain ⟨b6', he6, hb6l, hB6⟩ := f6
    cases he6
    refine gives_store_blk 26 _ _ rfl b6 rfl 26 _ [.int .u32 u.a, .int .u32 u.b, .int .u32 u.c, .int .u32 u.d, .int .u32 u.e, .int .u32 u.f, .int .u32 u.g, .int .u32 u.z, .slice a2 1 c2, .int .i64 65] rfl hB6 rfl infoM (mill_one _ _ _ _ _) fun hS => ?_
    exact ⟨below_setCells hb6l _ _ _ (Below.refl _ _), b6, a2, c2, rfl, hS⟩
  rintro x7 -
  simp only [Act.put, List.setIfInBounds_toArray, List.set_cons_succ, List.set_cons_zero]
  intro w7 hc7 hfq
  have f7 := hfq 7
  simp only [upd, Nat.beq, cond] at f7
  clear hfq
  have hb7 : Below w.heap.size w w7 := bchain (by repeat' (first | with_reducible exact hb6 | with_reducible refine Below.drew ?_ | with_reducible refine below_drewN ?_ _ | with_reducible refine Below.alloc ?_ (by have := hb6.size; first | (simp; done) | (simp; omega) | omega) _ | with_reducible refine Below.setCell ?_ (by first | (simp; done) | (simp; omega) | omega) _)) hc7
  have hst7 : Below w6.heap.size w6 w7 := bchain (by repeat' (first | with_reducible exact Below.refl _ _ | with_reducible refine Below.drew ?_ | with_reducible refine below_drewN ?_ _ | with_reducible refine Below.alloc ?_ (by first | (simp; done) | (simp; omega) | omega) _ | with_reducible refine Below.setCell ?_ (by first | (simp; done) | (simp; omega) | omega) _)) hc7
  replace hD2 := hD2.later hst7
  replace hE5 := hE5.later hst7
  clear hst7
  obtain ⟨b6', a6, c6, he6, hB6⟩ := f7
  cases he6
  have M_0 : w7.cell? ⟨b6, 8, none⟩ = some (.slice a6 1 c6) := hB6.cell (j := 8) rfl
  have M_1 : w7.cell? ⟨b6, 9, none⟩ = some (.int .i64 65) := hB6.cell (j := 9) rfl
  have M_l := hB6.lt
  clear hB6
  go_wp2_with fail
  with_reducible refine (is_any ⟨#[]⟩ dNil 227 176 196 66 85 _ (by decide) sum_nilS rfl rfl rfl rfl rfl (hK.later hb7) (hwf _ hb7)).mono ?_
  rintro e w8 ⟨rfl, hc8⟩
  have hb8 : Below w.heap.size w w8 := bchain (by repeat' (first | with_reducible exact hb7 | with_reducible refine Below.drew ?_ | with_reducible refine below_drewN ?_ _ | with_reducible refine Below.alloc ?_ (by have := hb7.size; first | (simp; done) | (simp; omega) | omega) _ | with_reducible refine Below.setCell ?_ (by first | (simp; done) | (simp; omega) | omega) _)) hc8
  have hst8 : Below w7.heap.size w7 w8 := bchain (by repeat' (first | with_reducible exact Below.refl _ _ | with_reducible refine Below.drew ?_ | with_reducible refine below_drewN ?_ _ | with_reducible refine Below.alloc ?_ (by first | (simp; done) | (simp; omega) | omega) _ | with_reducible refine Below.setCell ?_ (by first | (simp; done) | (simp; omega) | omega) _)) hc8
  replace M_0 := cell_later hst8 M_0
  replace M_1 := cell_later hst8 M_1
  replace M_l := Nat.lt_of_lt_of_le M_l hst8.size
  replace hD2 := hD2.later hst8
  replace hE5 := hE5.later hst8
  clear hst8
  clear hc8 hb7
  go_wp2_with fail
  with_reducible refine (is_any ⟨#[97, 98, 99]⟩ dAbc 186 120 22 191 173 _ (by decide) sum_abcS rfl rfl rfl rfl rfl (hK.later hb8) (hwf _ hb8)).mono ?_
  rintro e w9 ⟨rfl, hc9⟩
  have hb9 : Below w.heap.size w w9 := bchain (by repeat' (first | with_reducible exact hb8 | with_reducible refine Below.drew ?_ | with_reducible refine below_drewN ?_ _ | with_reducible refine Below.alloc ?_ (by have := hb8.size; first | (simp; done) | (simp; omega) | omega) _ | with_reducible refine Below.setCell ?_ (by first | (simp; done) | (simp; omega) | omega) _)) hc9
  have hst9 : Below w8.heap.size w8 w9 := bchain (by repeat' (first | with_reducible exact Below.refl _ _ | with_reducible refine Below.drew ?_ | with_reducible refine below_drewN ?_ _ | with_reducible refine Below.alloc ?_ (by first | (simp; done) | (simp; omega) | omega) _ | with_reducible refine Below.setCell ?_ (by first | (simp; done) | (simp; omega) | omega) _)) hc9
  replace M_0 := cell_later hst9 M_0
  replace M_1 := cell_later hst9 M_1
  replace M_l := Nat.lt_of_lt_of_le M_l hst9.size
  replace hD2 := hD2.later hst9
  replace hE5 := hE5.later hst9
  clear hst9
  clear hc9 hb8
  have heq := HE.out
  go_wp2_with (first | (refine wpList_load_blkG (by rfl) 33 _ rfl w1.heap.size (by rfl) 33 dv _ hD2 Tryd.underlying33 rfl H_hi2.out ?_) | (refine wpList_load_blkG (by rfl) 33 _ rfl w4.heap.size (by rfl) 33 dv _ hE5 Tryd.underlying33 rfl H_hi2.out ?_))
  go_ret
  exact ⟨rfl, (by repeat' (first | with_reducible exact hb9 | with_reducible refine Below.drew ?_ | with_reducible refine below_drewN ?_ _ | with_reducible refine Below.alloc ?_ (by have := hb9.size; first | (simp; done) | (simp; omega) | omega) _ | with_reducible refine Below.setCell ?_ (by first | (simp; done) | (simp; omega) | omega) _))⟩

end Go.Proofs.YtlilodfddojlhaaDoor
