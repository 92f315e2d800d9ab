/- A block is ground into words. -/
import Derived.Test.YtfabcdpmnbeflaaDoorDigGrindP
import Derived.Deep.DeepCutAuto
namespace Go.Proofs.YtfabcdpmnbeflaaDoor
set_option maxRecDepth 100000
set_option linter.unusedSimpArgs false
set_option linter.unusedVariables false
set_option linter.unnecessarySimpa false
open Go.RowKit

theorem info64 : (Tryd.prog.info? 111).map (·.size) = some 64 := by kernel_rfl
theorem idx8 (a b c d e f g h : Int) (i : Nat) (hi : i < 8) (w : World) :
    (Instr.index 93 (.agg #[.int .u32 a, .int .u32 b, .int .u32 c, .int .u32 d, .int .u32 e, .int .u32 f, .int .u32 g, .int .u32 h]) (.int .i64 i)).run Tryd.prog w = .ok (.int .u32 ([a, b, c, d, e, f, g, h][i]?.getD 0)) w := by
  rcases (by omega : i = 0 ∨ i = 1 ∨ i = 2 ∨ i = 3 ∨ i = 4 ∨ i = 5 ∨ i = 6 ∨ i = 7) with rfl | rfl | rfl | rfl | rfl | rfl | rfl | rfl <;> kernel_rfl

set_option maxRecDepth 100000 in
set_option maxHeartbeats 4000000 in
theorem grind_any (hs : List Int) (tl : List Value) (H : Nat) (T : TypeId) (bs : List Int) (n c : Nat) (a : Option Addr) (w : World) (hl : hs.length = 8) (hr : Rng32 hs) (hH : Blk w H T (hs.map (Value.int .u32) ++ tl)) (hH0 : 0 ≠ H)
    (hK : CellsAt w (some ⟨1, 0, none⟩) (kcs.map (Value.int .u32))) (h64 : 64 ≤ n) (hn : n ≤ bs.length) (hc : CellsAt w a (bs.map (Value.int .u8))) (hnc : n ≤ c) (hcm : c ≤ maxLen) (hb : ∀ x ∈ bs, 0 ≤ x ∧ x < 256) :
    Calls Tryd.prog 73 #[.pointer (some ⟨H, 0, none⟩), .slice a n c] w fun e w' =>
      e = .returned (.tuple #[]) ∧ w.grownBy w' (some H) ∧ Blk w' H T ((ground hs bs).map (Value.int .u32) ++ tl) := by
  have hHl := hH.lt
  obtain ⟨v0, hv0⟩ : ∃ v, v = V8.of hs := ⟨_, rfl⟩
  have hv0k : v0.ok := by rw [hv0]; exact V8.of_ok hr
  have e8 : hs = v0.list := by
    rw [hv0]
    match hs, hl with
    | [_, _, _, _, _, _, _, _], _ => rfl
  have HL := hid hl
  have HR := hid hr
  have HV0 := hid hv0
  have HV0k := hid hv0k
  have HE8 := hid e8
  clear hl hr hv0 hv0k e8
  go_enter Tryd.func73, Tryd.ntmps73
  have hb0 := Below.refl w.heap.size w
  go_wp2_with fail
  with_reducible refine (sched_any bs n c a _ h64 hn hc hnc hcm hb).mono ?_
  rintro e w1 ⟨rfl, hc1⟩
  have hb1 : Below w.heap.size w w1 := bchain (by repeat' (first | with_reducible exact hb0 | with_reducible refine Below.drew ?_ | with_reducible refine below_drewN ?_ _ | with_reducible refine Below.alloc ?_ (by have := hb0.size; first | (simp; done) | (simp; omega) | omega) _ | with_reducible refine Below.setCell ?_ (by first | (simp; done) | (simp; omega) | omega) _)) hc1
  have hst1 : Below w.heap.size w w1 := bchain (by repeat' (first | with_reducible exact Below.refl _ _ | with_reducible refine Below.drew ?_ | with_reducible refine below_drewN ?_ _ | with_reducible refine Below.alloc ?_ (by first | (simp; done) | (simp; omega) | omega) _ | with_reducible refine Below.setCell ?_ (by first | (simp; done) | (simp; omega) | omega) _)) hc1
  replace hH := hH.later hst1
  replace hK := hK.later hst1
  clear hst1
  clear hc1 hb0
  have kG0 : w.grownBy w1 (some H) := gb_of_below hb1 H
  obtain ⟨vs, hvs⟩ : ∃ vs, vs = (arw bs 48).map (Value.int .u32) := ⟨_, rfl⟩
  have hvl : 64 = vs.length := by rw [hvs, List.length_map, arw_len]
  have ho : ∀ v ∈ vs, v.oneCell' = true := by rw [hvs]; exact oneCell_ints _ _
  have hi : (Tryd.prog.info? 111).map (·.size) = some vs.length := by rw [← hvl]; exact info64
  have hN := Blk.new w1 w1.heap.size (List.replicate 64 (Value.int .u32 0)) 111 rfl
  have hlr : vs.length = (List.replicate 64 (Value.int .u32 0)).length := by rw [← hvl]; rfl
  have zH1 := hH.lt
  rw [← hvs]
  have H_hvl := hid hvl
  have H_hvs := hid hvs
  have H_ho := hid ho
  have H_hi := hid hi
  have H_hlr := hid hlr
  clear hvl hvs ho hi hlr
  go_wp2_with (refine wpList_store_blk rfl 111 _ _ rfl w1.heap.size (by rfl) 111 _ vs (by rfl) hN H_hlr.out H_hi.out H_ho.out ?_; intro w2 hB2 he2)
  have hb2 : Below w.heap.size w w2 := he2 ▸ below_setCells hb1.size _ _ _ (hb1.alloc hb1.size _)
  have hsz2 : w2.heap.size = w1.heap.size + 1 := by rw [he2, size_setCells]; simp
  have hH2 : Blk w2 H T (hs.map (Value.int .u32) ++ tl) := he2 ▸ Blk.setCellsFar (by omega) _ _ _ (hH.alloc _)
  have hK2 : CellsAt w2 (some ⟨1, 0, none⟩) (kcs.map (Value.int .u32)) := he2 ▸ CellsAt.setCellsFar (by intro ad e; cases e; simp; omega) _ _ _ (hK.alloc _)
  clear hN he2
  have zW2 : w1.heap.size < w2.heap.size := by omega
  clear hsz2
  have zHW : H ≠ w1.heap.size := by omega
  obtain ⟨WB, hWB⟩ : ∃ WB, WB = w1.heap.size := ⟨_, rfl⟩
  rw [← hWB] at hB2 zW2 zHW
  rw [← hWB]
  clear hH hK hWB
  have hcs : ∀ j, j < 8 → w2.cell? ⟨H, j, none⟩ = some (.int .u32 (v0.list[j]?.getD 0)) := fun j hj => hH2.cell (by
    rw [HE8.out, List.getElem?_append_left (by simp [V8.list]; omega)]
    simp [List.getElem?_map, List.getElem?_eq_getElem (show j < v0.list.length from hj)])
  have d0 : w2.cell? ⟨H, 0, none⟩ = some (.int .u32 v0.a) := hcs 0 (by omega)
  have d1 : w2.cell? ⟨H, 1, none⟩ = some (.int .u32 v0.b) := hcs 1 (by omega)
  have d2 : w2.cell? ⟨H, 2, none⟩ = some (.int .u32 v0.c) := hcs 2 (by omega)
  have d3 : w2.cell? ⟨H, 3, none⟩ = some (.int .u32 v0.d) := hcs 3 (by omega)
  have d4 : w2.cell? ⟨H, 4, none⟩ = some (.int .u32 v0.e) := hcs 4 (by omega)
  have d5 : w2.cell? ⟨H, 5, none⟩ = some (.int .u32 v0.f) := hcs 5 (by omega)
  have d6 : w2.cell? ⟨H, 6, none⟩ = some (.int .u32 v0.g) := hcs 6 (by omega)
  have d7 : w2.cell? ⟨H, 7, none⟩ = some (.int .u32 v0.z) := hcs 7 (by omega)
  clear hcs
  go_wp2_with fail
  go_quiet (fail)
  clear d0 d1 d2 d3 d4 d5 d6 d7
  go_wp2_with fail
  refine wp_gen fun w3 hc3 => ?_
  have hc23 : Below w2.heap.size w2 w3 := bchain (below_drewN (Below.refl _ _) _) hc3
  clear hc3
  go_loopw [5, 6, 7, 8, 9, 10, 11, 12, 52] (fun s5 s6 s7 s8 s9 s10 s11 s12 q wr => ∃ (t : Nat) (v : V8), t ≤ 64 ∧ s5 = .int .u32 v.a ∧ s6 = .int .u32 v.b ∧ s7 = .int .u32 v.c ∧ s8 = .int .u32 v.d ∧ s9 = .int .u32 v.e ∧ s10 = .int .u32 v.f ∧ s11 = .int .u32 v.g ∧ s12 = .int .u32 v.z ∧ q = .int .i64 t ∧ Hid (v = vAt v0 (arw bs 48) t) ∧ Below w2.heap.size w2 wr) (fun _ _ _ _ _ _ _ _ q _ => 64 - (intOf q).toNat)
  case atStart => exact ⟨0, v0, by omega, rfl, rfl, rfl, rfl, rfl, rfl, rfl, rfl, rfl, hid rfl, hc23⟩
  case round =>
    obtain ⟨t, v, ht, rfl, rfl, rfl, rfl, rfl, rfl, rfl, rfl, rfl, HV, hc4⟩ := hrel
    obtain ⟨w4, hw4⟩ : ∃ w4, w4 = wr := ⟨wr, rfl⟩
    subst hw4
    have hok : v.ok := HV.out ▸ vAt_ok HV0k.out _ t
    obtain ⟨h1, h2, h3, h4, h5, h6, h7, h8⟩ := hok
    obtain ⟨a1, b, c1, d, e, f, g, zz⟩ := v
    simp only at h1 h2 h3 h4 h5 h6 h7 h8
    have H234678 := hid (And.intro h2 (And.intro h3 (And.intro h4 (And.intro h6 (And.intro h7 h8)))))
    clear h2 h3 h4 h6 h7 h8
    dsimp only
    by_cases hlt : t < 64
    · have hlt' : (t : Int) < 64 := by omega
      have hlen := hid (arw_len bs 48)
      have hBt := hB2.later hc4
      rw [H_hvs.out] at hBt
      have cW := hBt.cellI (j := t) (by rw [arw_len]; omega)
      obtain ⟨kb, ko, ke, hkc⟩ := (hK2.later hc4).int (by rw [kcs_len]; omega)
      cases ke
      have cK := hkc t (by rw [kcs_len]; omega)
      rw [Nat.zero_add] at cK
      clear hkc hBt
      obtain ⟨x, hx⟩ : ∃ x, x = (arw bs 48)[t]?.getD 0 := ⟨_, rfl⟩
      obtain ⟨k, hk⟩ : ∃ k, k = kcs[t]?.getD 0 := ⟨_, rfl⟩
      rw [← hx] at cW
      rw [← hk] at cK
      have H_hx := hid hx
      have H_hk := hid hk
      clear hx hk
      obtain ⟨h5a, h5b⟩ := h5
      obtain ⟨h1a, h1b⟩ := h1
      go_wp2_with fail
      have hsg : IntKind.u32.signed = false := rfl
      have hmx : IntKind.u32.max = 4294967295 := rfl
      have KcW := cell_on cW
      have KcK := cell_on cK
      refine wp_region_on (by kernel_rfl) (by kernel_rfl) ?_
      repeat (go_big_quiet_step ((first | (go_at_call 77; with_reducible exact calls_on (mix_any e 6 11 25 6 11 25 _ rfl rfl rfl (by omega) (by omega) (by omega) h5a h5b)))))
      refine wpQuiet_nil ?_
      intro w5 hc5
      clear KcW KcK cW cK
      have hb5 : Below w2.heap.size w2 w5 := bchain hc4 hc5
      generalize hp : ((zz + mixF e 6 11 25 + bits BinOp.xor IntKind.u32 (bits BinOp.and IntKind.u32 e f) (bits BinOp.and IntKind.u32 (bits BinOp.xor IntKind.u32 4294967295 e) g) + k) % 4294967296 + x) % 4294967296 = p
      have Hp := hid (show p = V8.p ⟨a1, b, c1, d, e, f, g, zz⟩ k x by rw [← hp]; exact V8.p_eq a1 b c1 d e f g zz k x)
      clear hp hsg hmx
      go_wp2_with fail
      with_reducible refine (mix_any a1 2 13 22 2 13 22 _ rfl rfl rfl (by omega) (by omega) (by omega) h1a h1b).mono ?_
      rintro e1 w6 ⟨rfl, hc6⟩
      have hb6 : Below w2.heap.size w2 w6 := bchain (by repeat' (first | with_reducible exact hb5 | with_reducible refine Below.drew ?_)) hc6
      go_upto_region 7 with fail
      generalize hq : (mixF a1 2 13 22 + bits BinOp.xor IntKind.u32 (bits BinOp.xor IntKind.u32 (bits BinOp.and IntKind.u32 a1 b) (bits BinOp.and IntKind.u32 a1 c1)) (bits BinOp.and IntKind.u32 b c1)) % 4294967296 = q
      have Hq := hid (show q = V8.q ⟨a1, b, c1, d, e, f, g, zz⟩ by rw [← hq]; rfl)
      clear hq
      go_wp2_with fail
      go_roundw
      case rel =>
        have e1 : vAt v0 (arw bs 48) (t + 1) = V8.rnd ⟨a1, b, c1, d, e, f, g, zz⟩ k x := by rw [H_hx.out, H_hk.out, HV.out]; rfl
        have e2 : V8.rnd ⟨a1, b, c1, d, e, f, g, zz⟩ k x = ⟨(p + q) % 4294967296, a1, b, c1, (d + p) % 4294967296, e, f, g⟩ := by rw [Hp.out, Hq.out]; rfl
        refine ⟨t + 1, ⟨(p + q) % 4294967296, a1, b, c1, (d + p) % 4294967296, e, f, g⟩, by omega, rfl, rfl, rfl, rfl, rfl, rfl, rfl, rfl, by go_num, hid (by rw [e1, e2]), hb6⟩
      case measure => simp [intOf]; omega
    · have ht64 : t = 64 := by omega
      have hge : (64 : Int) ≤ (t : Int) := by omega
      obtain ⟨tv, htv⟩ : ∃ tv, tv = V8.mk a1 b c1 d e f g zz := ⟨_, rfl⟩
      rw [ht64, ← htv] at HV
      have HT := hid htv
      have HT64 := hid ht64
      clear htv ht64
      have hHx := hH2.later hc4
      go_wp2_with fail
      refine wp_gen fun w5 hc5 => ?_
      have hb5 : Below w2.heap.size w2 w5 := bchain hc4 hc5
      have hHy := hHx.later hc5
      clear hc5 hHx
      go_loopw [112] (fun q wr => ∃ i : Nat, i ≤ 8 ∧ q = .int .i64 i ∧ w5.grownBy wr (some H) ∧ Blk wr H T ((addUp hs tv.list i).map (Value.int .u32) ++ tl)) (fun q _ => 8 - (intOf q).toNat)
      case atStart => exact ⟨0, by omega, rfl, World.grownBy.refl _ _, hHy⟩
      case round =>
        clear hHy
        obtain ⟨i, hi8, rfl, hg, hHz⟩ := hrel
        by_cases hl8 : i < 8
        · have hl8' : (i : Int) < 8 := by omega
          have hli := hid (addUp_len hs tv.list i)
          obtain ⟨y, hy⟩ : ∃ y, y = (addUp hs tv.list i)[i]?.getD 0 := ⟨_, rfl⟩
          obtain ⟨x, hx⟩ : ∃ x, x = [a1, b, c1, d, e, f, g, zz][i]?.getD 0 := ⟨_, rfl⟩
          have cH : wr.cell? ⟨H, i, none⟩ = some (.int .u32 y) := hHz.cell (by
            rw [List.getElem?_append_left (by rw [List.length_map, hli.out, HL.out]; exact hl8), List.getElem?_map, hy, List.getElem?_eq_getElem (by rw [hli.out, HL.out]; exact hl8)]; rfl)
          have fH := hHz.free i
          have hix := idx8 a1 b c1 d e f g zz i hl8
          rw [← hx] at hix
          have H_hx := hid hx
          have H_hy := hid hy
          clear hx hy
          go_wp2_with fail
          go_region
          all_goals go_wp2_with fail
          go_roundw
          case rel =>
            refine ⟨i + 1, by omega, by go_num, ?_, ?_⟩
            · exact gb_drew (gb_setCell hg _ _)
            · have h1 := hHz.set i (.int .u32 ((y + x) % 4294967296))
              rw [List.set_append_left _ _ (by rw [List.length_map, hli.out, HL.out]; exact hl8), ← List.map_set] at h1
              have h2 : addUp hs tv.list (i + 1) = (addUp hs tv.list i).set i ((y + x) % 4294967296) := by rw [H_hx.out, H_hy.out, HT.out]; rfl
              rw [h2]
              exact h1.drew
          case measure => simp [intOf]; omega
        · have hge8 : (8 : Int) ≤ (i : Int) := by omega
          have hi8' : i = 8 := by omega
          have hgr : ground hs bs = addUp hs tv.list i := by rw [hi8', HV.out, HV0.out]; rfl
          rw [← hgr] at hHz
          have hgw := gb_trans (gb_trans (gb_of_below hb2 H) (gb_of_below hb5 H)) hg
          have H_hi8' := hid hi8'
          have H_hgr := hid hgr
          clear hi8' hgr
          go_wp2_with fail
          go_end0
          exact ⟨rfl, hgw, hHz⟩

end Go.Proofs.YtfabcdpmnbeflaaDoor
