/- DigestSums: the law's function returns true. -/
import Derived.Test.YtlilodfddojlhaaDoorDigOf
import Derived.Test.YtlilodfddojlhaaDoorRegMore
import Derived.Test.YtlilodfddojlhaaDoorOwnAt
namespace Go.Proofs.YtlilodfddojlhaaDoor
set_option linter.unusedSimpArgs false
set_option linter.unusedVariables false
set_option linter.unnecessarySimpa false
open Go.RowKit

theorem Calls_gen1 {P : Program} {f : FuncId} {args : Array Value} {w : World} {Q : Ending → World → Prop} (h : ∀ w', Below w.heap.size w w' → Calls P f args w' Q) : Calls P f args w Q := h w (Below.refl _ _)
theorem sum_r' {bs dl : List Int} {dv : List Value} {de : Int} (hD : sumP [bs] = (dl, de)) (hdv : dv = dl.map (Value.int .u8)) (a : Option Addr) (n c : Nat) (w : World) (hn : n = bs.length) (hb : CellsAt w a (bs.map (Value.int .u8))) (h8 : Bytes8 bs) (hl : bs.length ≤ maxLen) (hK : CellsAt w (some ⟨0, 0, none⟩) (kcs.map (Value.int .u32))) (hw0 : 0 < w.heap.size) :
    Calls Tryd.prog 19 #[.slice a n c] w fun e w' =>
      e = .returned (.tuple #[.agg dv.toArray, .int .i64 de]) ∧ Below w.heap.size w w' := by
  have := sum_any bs a n c w hn hb h8 hl hK hw0
  rw [hD, idE_mk, ← hdv] at this; exact this
theorem rsum_r' {bs dl : List Int} {dv : List Value} {de : Int} (hD : sumP [bs] = (dl, de)) (hdv : dv = dl.map (Value.int .u8)) (a : Option Addr) (n c : Nat) (w : World) (hn : n = bs.length) (hb : CellsAt w a (bs.map (Value.int .u8))) (h8 : Bytes8 bs) (hl : bs.length ≤ maxLen) :
    Calls Tryd.prog 20 #[.slice a n c] w fun e w' =>
      e = .returned (.tuple #[.agg dv.toArray, .int .i64 de]) ∧ Below w.heap.size w w' := by
  have := rsum_any bs a n c w hn hb h8 hl
  rw [hD, idE_mk, ← hdv] at this; exact this
theorem pieces_r' {l : List (List Int)} {dl : List Int} {dv : List Value} {de : Int} (hD : sumP l = (dl, de)) (hdv : dv = dl.map (Value.int .u8)) (vs : List Value) (a : Option Addr) (n c : Nat) (w : World) (hP : PiecesIn w a vs l) (hn : n = l.length) (hK : CellsAt w (some ⟨0, 0, none⟩) (kcs.map (Value.int .u32))) (hw0 : 0 < w.heap.size) :
    Calls Tryd.prog 21 #[.slice a n c] w fun e w' =>
      e = .returned (.tuple #[.agg dv.toArray, .int .i64 de]) ∧ Below w.heap.size w w' := by
  have := pieces_any l vs a n c w hP hn hK hw0
  rw [hD, idE_mk, ← hdv] at this; exact this
theorem rpieces_r' {l : List (List Int)} {dl : List Int} {dv : List Value} {de : Int} (hD : sumP l = (dl, de)) (hdv : dv = dl.map (Value.int .u8)) (vs : List Value) (a : Option Addr) (n c : Nat) (w : World) (hP : PiecesIn w a vs l) (hn : n = l.length) :
    Calls Tryd.prog 22 #[.slice a n c] w fun e w' =>
      e = .returned (.tuple #[.agg dv.toArray, .int .i64 de]) ∧ Below w.heap.size w w' := by
  have := rpieces_any l vs a n c w hP hn
  rw [hD, idE_mk, ← hdv] at this; exact this

set_option maxRecDepth 100000 in
set_option maxHeartbeats 4000000 in
theorem sums_walk (l : List (List Int)) (vs : List Value) (a : Option Addr) (c : Nat) (xs ys : List Int) (w : World) (hP : PiecesIn w a vs l) (hx : IdIn xs) (hy : IdIn ys) (hsum : l.flatten.length ≤ 70368744177664) (hK : CellsAt w (some ⟨0, 0, none⟩) (kcs.map (Value.int .u32))) (hw0 : 0 < w.heap.size) :
    Calls Tryd.prog 4 #[.slice a l.length c, .agg (xs.map (Value.int .u8)).toArray, .agg (ys.map (Value.int .u8)).toArray] w fun e w' =>
      e = .returned (.bool true) ∧ Below w.heap.size w w' := by
  obtain ⟨n, hn⟩ : ∃ n, n = l.length := ⟨_, rfl⟩
  rw [← hn]
  have hml := hP.len
  unfold maxLen at hml
  rw [← hn] at hml
  obtain ⟨hx, hx8⟩ := hx
  obtain ⟨hy, hy8⟩ := hy
  obtain ⟨us, hus⟩ : ∃ us, us = xs.map (Value.int .u8) := ⟨_, rfl⟩
  obtain ⟨ts, hts⟩ : ∃ ts, ts = ys.map (Value.int .u8) := ⟨_, rfl⟩
  rw [← hus, ← hts]
  have hwf : ∀ W, Below w.heap.size w W → 0 < W.heap.size := fun W h => Nat.lt_of_lt_of_le hw0 h.size
  obtain ⟨X, hX⟩ : ∃ X, X = cmpZ xs ys := ⟨_, rfl⟩
  have hc1 := fun w => cmp_any xs ys w hx hy hx8 hy8
  have hc2 := fun w => rcmp_any xs ys w hx hy hx8 hy8
  simp only [← hX, ← hus, ← hts] at hc1 hc2
  have HC1 := hid hc1
  have HC2 := hid hc2
  have hiu : (Tryd.prog.info? 33).map (·.size) = some us.length := by rw [hus, List.length_map, hx]; exact info32
  have hit : (Tryd.prog.info? 33).map (·.size) = some ts.length := by rw [hts, List.length_map, hy]; exact info32
  have HS := hid hsum
  have H_hx := hid hx
  have H_hy := hid hy
  have H_hus := hid hus
  have H_hts := hid hts
  have H_hX := hid hX
  have H_hn := hid hn
  have H_hiu := hid hiu
  have H_hit := hid hit
  clear hx hy hus hts hX hn hiu hit
  clear hc1 hc2 hsum
  obtain ⟨pl, pe, pD⟩ : ∃ dl de, sumP l = (dl, de) := ⟨_, _, rfl⟩
  have pdl : pl.length = 32 := by have := sumP_len l; rw [pD] at this; exact this
  obtain ⟨pv, pdv⟩ : ∃ dv, dv = pl.map (Value.int .u8) := ⟨_, rfl⟩
  have pvl : pv.length = 32 := by rw [pdv, List.length_map, pdl]
  have po : ∀ x ∈ pv, x.oneCell' = true := by rw [pdv]; exact oneCell_ints _ _
  have pi : (Tryd.prog.info? 33).map (·.size) = some pv.length := by rw [pvl]; exact info32
  have pr : pv.length = (List.replicate 32 (Value.int .u8 0)).length := by rw [pvl]; rfl
  have pq : ∀ w, (Op.equalIn 10000 33 (.agg pv.toArray) (.agg pv.toArray)).run Tryd.prog w = .ok true w := fun w => by
    rw [pdv, eq_ids pl pl pdl pdl]; simp
  have H_pD := hid pD
  have H_pdl := hid pdl
  have H_pdv := hid pdv
  have H_pvl := hid pvl
  have H_po := hid po
  have H_pi := hid pi
  have H_pr := hid pr
  have H_pq := hid pq
  clear pD pdl pdv pvl po pi pr pq
  go_enter Tryd.func4, Tryd.ntmps4
  have hb0 := Below.refl w.heap.size w
  go_wp2_with fail
  refine Calls_gen1 fun w1 hc1 => ?_
  have hbA : Blk w1 w.heap.size 33 us := Blk.later ((Blk.newA w _ _ _ us rfl rfl).alloc _) hc1
  have hbB : Blk w1 (w.heap.size + 1) 33 ts := Blk.later (Blk.newA _ _ _ _ ts (by simp) rfl) hc1
  have hb1 : Below w.heap.size w w1 := bchain (by repeat' (first | with_reducible exact hb0 | with_reducible refine Below.drew ?_ | with_reducible refine below_drewN ?_ _ | with_reducible refine Below.alloc ?_ (by have := hb0.size; first | (simp; done) | (simp; omega) | omega) _ | with_reducible refine Below.setCell ?_ (by first | (simp; done) | (simp; omega) | omega) _)) hc1
  clear hc1
  with_reducible refine (long_any l vs a n c _ (hP.later hb1) H_hn.out).mono ?_
  rintro e w2 ⟨⟨b, rfl, hb⟩, hc2⟩
  have hb2 : Below w.heap.size w w2 := bchain (by repeat' (first | with_reducible exact hb1 | with_reducible refine Below.drew ?_ | with_reducible refine below_drewN ?_ _ | with_reducible refine Below.alloc ?_ (by have := hb1.size; first | (simp; done) | (simp; omega) | omega) _ | with_reducible refine Below.setCell ?_ (by first | (simp; done) | (simp; omega) | omega) _)) hc2
  have hst2 : Below w1.heap.size w1 w2 := bchain (by repeat' (first | with_reducible exact Below.refl _ _ | with_reducible refine Below.drew ?_ | with_reducible refine below_drewN ?_ _ | with_reducible refine Below.alloc ?_ (by first | (simp; done) | (simp; omega) | omega) _ | with_reducible refine Below.setCell ?_ (by first | (simp; done) | (simp; omega) | omega) _)) hc2
  replace hbA := hbA.later hst2
  replace hbB := hbB.later hst2
  clear hst2
  clear hc2
  cases b
  rotate_left
  · clear hb
    go_wp2_with fail
    go_ret
    exact ⟨rfl, hb2⟩
  have hl30 := hid (hb rfl)
  clear hb
  go_wp2_with fail
  with_reducible refine (whole_any l vs a n c _ (hP.later hb2) H_hn.out HS.out).mono ?_
  rintro e w3 ⟨⟨a0, m0, c0, rfl, hm0, o0⟩, hc3⟩
  have hb3 : Below w.heap.size w w3 := bchain (by repeat' (first | with_reducible exact hb2 | with_reducible refine Below.drew ?_ | with_reducible refine below_drewN ?_ _ | with_reducible refine Below.alloc ?_ (by have := hb2.size; first | (simp; done) | (simp; omega) | omega) _ | with_reducible refine Below.setCell ?_ (by first | (simp; done) | (simp; omega) | omega) _)) hc3
  have hst3 : Below w2.heap.size w2 w3 := bchain (by repeat' (first | with_reducible exact Below.refl _ _ | with_reducible refine Below.drew ?_ | with_reducible refine below_drewN ?_ _ | with_reducible refine Below.alloc ?_ (by first | (simp; done) | (simp; omega) | omega) _ | with_reducible refine Below.setCell ?_ (by first | (simp; done) | (simp; omega) | omega) _)) hc3
  replace hbA := hbA.later hst3
  replace hbB := hbB.later hst3
  clear hst3
  clear hc3 hb2
  have Hm0 := hid hm0
  have k0 := o0.cellsAt
  clear hm0 o0
  go_wp2_with fail
  go_loopw [8] (fun q wr => ∃ (i : Nat), i ≤ n ∧ q = .int .i64 i ∧ Below w.heap.size w wr ∧ Below w3.heap.size w3 wr) (fun q _ => n - (intOf q).toNat)
  case atStart => exact ⟨0, Nat.zero_le _, rfl, hb3, Below.refl _ _⟩
  case round =>
    obtain ⟨i, hi, rfl, hbw, hb3r⟩ := hrel
    obtain ⟨w4, hw4⟩ : ∃ w4, w4 = wr := ⟨wr, rfl⟩
    subst hw4
    have z34 := hb3r.size
    by_cases hlt : i < n
    · have hltI : (i : Int) < (n : Int) := by omega
      obtain ⟨ql, qe, qD⟩ : ∃ dl de, sumP [pc l i] = (dl, de) := ⟨_, _, rfl⟩
      have qdl : ql.length = 32 := by have := sumP_len [pc l i]; rw [qD] at this; exact this
      obtain ⟨qv, qdv⟩ : ∃ dv, dv = ql.map (Value.int .u8) := ⟨_, rfl⟩
      have qvl : qv.length = 32 := by rw [qdv, List.length_map, qdl]
      have qo : ∀ x ∈ qv, x.oneCell' = true := by rw [qdv]; exact oneCell_ints _ _
      have qi : (Tryd.prog.info? 33).map (·.size) = some qv.length := by rw [qvl]; exact info32
      have qr : qv.length = (List.replicate 32 (Value.int .u8 0)).length := by rw [qvl]; rfl
      have qq : ∀ w, (Op.equalIn 10000 33 (.agg qv.toArray) (.agg qv.toArray)).run Tryd.prog w = .ok true w := fun w => by
        rw [qdv, eq_ids ql ql qdl qdl]; simp
      have H_qD := hid qD
      have H_qdl := hid qdl
      have H_qdv := hid qdv
      have H_qvl := hid qvl
      have H_qo := hid qo
      have H_qi := hid qi
      have H_qr := hid qr
      have H_qq := hid qq
      clear qD qdl qdv qvl qo qi qr qq
      have hil := hid (show i < l.length by have := H_hn.out; omega)
      obtain ⟨bb, o, x, m, cx, rfl, cc, hm, kx, h8x, hml2⟩ := (hP.later hbw).at hil.out
      have hpl := hid (show (pc l i).length ≤ maxLen by rw [← hm]; exact hml2)
      have H_hm := hid hm
      clear hm
      clear hml2
      have g3 : From w3 w4 := hb3r
      go_wp2_with fail
      with_reducible refine (sum_r' H_qD.out H_qdv.out x m cx _ H_hm.out kx h8x hpl.out (hK.later hbw) (hwf _ hbw)).mono ?_
      rintro e w5 ⟨rfl, hc5⟩
      have hb5 : Below w.heap.size w w5 := bchain (by repeat' (first | with_reducible exact hbw | with_reducible refine Below.drew ?_ | with_reducible refine below_drewN ?_ _ | with_reducible refine Below.alloc ?_ (by have := hbw.size; first | (simp; done) | (simp; omega) | omega) _ | with_reducible refine Below.setCell ?_ (by first | (simp; done) | (simp; omega) | omega) _)) hc5
      have hst5 : Below w4.heap.size w4 w5 := bchain (by repeat' (first | with_reducible exact Below.refl _ _ | with_reducible refine Below.drew ?_ | with_reducible refine below_drewN ?_ _ | with_reducible refine Below.alloc ?_ (by first | (simp; done) | (simp; omega) | omega) _ | with_reducible refine Below.setCell ?_ (by first | (simp; done) | (simp; omega) | omega) _)) hc5
      replace g3 := g3.later hst5
      clear hst5
      clear hc5 cc kx
      have hN5 := Blk.new w5 w5.heap.size (List.replicate 32 (Value.int .u8 0)) 33 rfl
      go_upto_region 8 with (refine wpList_store_blk rfl 33 _ _ rfl w5.heap.size (by rfl) 33 _ qv (by rfl) hN5 H_qr.out H_qi.out H_qo.out ?_; intro w6 hA6 he; have HW := hid he; clear he)
      have hc6 : Below w5.heap.size w5 w6 := HW.out ▸ below_setCells (Nat.le_refl _) _ _ _ ((Below.refl _ _).alloc (Nat.le_refl _) _)
      clear hN5 HW
      have hb6 : Below w.heap.size w w6 := bchain (by repeat' (first | with_reducible exact hb5 | with_reducible refine Below.drew ?_ | with_reducible refine below_drewN ?_ _ | with_reducible refine Below.alloc ?_ (by have := hb5.size; first | (simp; done) | (simp; omega) | omega) _ | with_reducible refine Below.setCell ?_ (by first | (simp; done) | (simp; omega) | omega) _)) hc6
      have hst6 : Below w5.heap.size w5 w6 := bchain (by repeat' (first | with_reducible exact Below.refl _ _ | with_reducible refine Below.drew ?_ | with_reducible refine below_drewN ?_ _ | with_reducible refine Below.alloc ?_ (by first | (simp; done) | (simp; omega) | omega) _ | with_reducible refine Below.setCell ?_ (by first | (simp; done) | (simp; omega) | omega) _)) hc6
      replace g3 := g3.later hst6
      clear hst6
      clear hc6
      obtain ⟨bb', o', x', m', cx', he', cc, hm', kx, _, _⟩ := (hP.later hb6).at hil.out
      cases he'
      have H_hm' := hid hm'
      clear hm'
      go_wp2_with fail
      with_reducible refine (rsum_r' H_qD.out H_qdv.out x' m' cx' _ H_hm'.out kx h8x hpl.out).mono ?_
      rintro e w7 ⟨rfl, hc7⟩
      have hb7 : Below w.heap.size w w7 := bchain (by repeat' (first | with_reducible exact hb6 | with_reducible refine Below.drew ?_ | with_reducible refine below_drewN ?_ _ | with_reducible refine Below.alloc ?_ (by have := hb6.size; first | (simp; done) | (simp; omega) | omega) _ | with_reducible refine Below.setCell ?_ (by first | (simp; done) | (simp; omega) | omega) _)) hc7
      have hst7 : Below w6.heap.size w6 w7 := bchain (by repeat' (first | with_reducible exact Below.refl _ _ | with_reducible refine Below.drew ?_ | with_reducible refine below_drewN ?_ _ | with_reducible refine Below.alloc ?_ (by first | (simp; done) | (simp; omega) | omega) _ | with_reducible refine Below.setCell ?_ (by first | (simp; done) | (simp; omega) | omega) _)) hc7
      replace g3 := g3.later hst7
      replace hA6 := hA6.later hst7
      clear hst7
      clear hc7 cc kx
      have hN7 := Blk.new w7 w7.heap.size (List.replicate 32 (Value.int .u8 0)) 33 rfl
      go_upto_region 9 with (refine wpList_store_blk rfl 33 _ _ rfl w7.heap.size (by rfl) 33 _ qv (by rfl) hN7 H_qr.out H_qi.out H_qo.out ?_; intro w8 hA8 he; have HW := hid he; clear he)
      have hc8 : Below w7.heap.size w7 w8 := HW.out ▸ below_setCells (Nat.le_refl _) _ _ _ ((Below.refl _ _).alloc (Nat.le_refl _) _)
      clear hN7 HW
      have hb8 : Below w.heap.size w w8 := bchain (by repeat' (first | with_reducible exact hb7 | with_reducible refine Below.drew ?_ | with_reducible refine below_drewN ?_ _ | with_reducible refine Below.alloc ?_ (by have := hb7.size; first | (simp; done) | (simp; omega) | omega) _ | with_reducible refine Below.setCell ?_ (by first | (simp; done) | (simp; omega) | omega) _)) hc8
      have hst8 : Below w7.heap.size w7 w8 := bchain (by repeat' (first | with_reducible exact Below.refl _ _ | with_reducible refine Below.drew ?_ | with_reducible refine below_drewN ?_ _ | with_reducible refine Below.alloc ?_ (by first | (simp; done) | (simp; omega) | omega) _ | with_reducible refine Below.setCell ?_ (by first | (simp; done) | (simp; omega) | omega) _)) hc8
      replace g3 := g3.later hst8
      replace hA6 := hA6.later hst8
      clear hst8
      clear hc8
      have heq := H_qq.out
      go_wp2_with (first | (refine wpList_load_blk rfl 33 _ rfl w5.heap.size (by rfl) 33 qv _ hA6 Tryd.underlying33 rfl H_qi.out ?_) | (refine wpList_load_blk rfl 33 _ rfl w7.heap.size (by rfl) 33 qv _ hA8 Tryd.underlying33 rfl H_qi.out ?_))
      go_roundw
      case rel => exact ⟨i + 1, by omega, by go_num, hb8, g3.out⟩
      case measure => simp [intOf]; omega
    · have hge : (n : Int) ≤ (i : Int) := by omega
      have hbA := hbA.later hb3r
      have hbB := hbB.later hb3r
      have k0 := k0.later hb3r
      go_wp2_with fail
      with_reducible refine (pieces_r' H_pD.out H_pdv.out vs a n c _ (hP.later hbw) H_hn.out (hK.later hbw) (hwf _ hbw)).mono ?_
      rintro e w11 ⟨rfl, hc11⟩
      have hb11 : Below w.heap.size w w11 := bchain (by repeat' (first | with_reducible exact hbw | with_reducible refine Below.drew ?_ | with_reducible refine below_drewN ?_ _ | with_reducible refine Below.alloc ?_ (by have := hbw.size; first | (simp; done) | (simp; omega) | omega) _ | with_reducible refine Below.setCell ?_ (by first | (simp; done) | (simp; omega) | omega) _)) hc11
      have hst11 : Below w4.heap.size w4 w11 := bchain (by repeat' (first | with_reducible exact Below.refl _ _ | with_reducible refine Below.drew ?_ | with_reducible refine below_drewN ?_ _ | with_reducible refine Below.alloc ?_ (by first | (simp; done) | (simp; omega) | omega) _ | with_reducible refine Below.setCell ?_ (by first | (simp; done) | (simp; omega) | omega) _)) hc11
      replace hbA := hbA.later hst11
      replace hbB := hbB.later hst11
      replace k0 := k0.later hst11
      clear hst11
      clear hc11
      have hN11 := Blk.new w11 w11.heap.size (List.replicate 32 (Value.int .u8 0)) 33 rfl
      go_upto_region 12 with (refine wpList_store_blk rfl 33 _ _ rfl w11.heap.size (by rfl) 33 _ pv (by rfl) hN11 H_pr.out H_pi.out H_po.out ?_; intro w12 hA12 he; have HW := hid he; clear he)
      have hc12 : Below w11.heap.size w11 w12 := HW.out ▸ below_setCells (Nat.le_refl _) _ _ _ ((Below.refl _ _).alloc (Nat.le_refl _) _)
      clear hN11 HW
      have hb12 : Below w.heap.size w w12 := bchain (by repeat' (first | with_reducible exact hb11 | with_reducible refine Below.drew ?_ | with_reducible refine below_drewN ?_ _ | with_reducible refine Below.alloc ?_ (by have := hb11.size; first | (simp; done) | (simp; omega) | omega) _ | with_reducible refine Below.setCell ?_ (by first | (simp; done) | (simp; omega) | omega) _)) hc12
      have hst12 : Below w11.heap.size w11 w12 := bchain (by repeat' (first | with_reducible exact Below.refl _ _ | with_reducible refine Below.drew ?_ | with_reducible refine below_drewN ?_ _ | with_reducible refine Below.alloc ?_ (by first | (simp; done) | (simp; omega) | omega) _ | with_reducible refine Below.setCell ?_ (by first | (simp; done) | (simp; omega) | omega) _)) hc12
      replace hbA := hbA.later hst12
      replace hbB := hbB.later hst12
      replace k0 := k0.later hst12
      clear hst12
      clear hc12
      go_wp2_with fail
      with_reducible refine (rpieces_r' H_pD.out H_pdv.out vs a n c _ (hP.later hb12) H_hn.out).mono ?_
      rintro e w13 ⟨rfl, hc13⟩
      have hb13 : Below w.heap.size w w13 := bchain (by repeat' (first | with_reducible exact hb12 | with_reducible refine Below.drew ?_ | with_reducible refine below_drewN ?_ _ | with_reducible refine Below.alloc ?_ (by have := hb12.size; first | (simp; done) | (simp; omega) | omega) _ | with_reducible refine Below.setCell ?_ (by first | (simp; done) | (simp; omega) | omega) _)) hc13
      have hst13 : Below w12.heap.size w12 w13 := bchain (by repeat' (first | with_reducible exact Below.refl _ _ | with_reducible refine Below.drew ?_ | with_reducible refine below_drewN ?_ _ | with_reducible refine Below.alloc ?_ (by first | (simp; done) | (simp; omega) | omega) _ | with_reducible refine Below.setCell ?_ (by first | (simp; done) | (simp; omega) | omega) _)) hc13
      replace hbA := hbA.later hst13
      replace hbB := hbB.later hst13
      replace k0 := k0.later hst13
      replace hA12 := hA12.later hst13
      clear hst13
      clear hc13
      have hN13 := Blk.new w13 w13.heap.size (List.replicate 32 (Value.int .u8 0)) 33 rfl
      go_upto_region 13 with (refine wpList_store_blk rfl 33 _ _ rfl w13.heap.size (by rfl) 33 _ pv (by rfl) hN13 H_pr.out H_pi.out H_po.out ?_; intro w14 hA14 he; have HW := hid he; clear he)
      have hc14 : Below w13.heap.size w13 w14 := HW.out ▸ below_setCells (Nat.le_refl _) _ _ _ ((Below.refl _ _).alloc (Nat.le_refl _) _)
      clear hN13 HW
      have hb14 : Below w.heap.size w w14 := bchain (by repeat' (first | with_reducible exact hb13 | with_reducible refine Below.drew ?_ | with_reducible refine below_drewN ?_ _ | with_reducible refine Below.alloc ?_ (by have := hb13.size; first | (simp; done) | (simp; omega) | omega) _ | with_reducible refine Below.setCell ?_ (by first | (simp; done) | (simp; omega) | omega) _)) hc14
      have hst14 : Below w13.heap.size w13 w14 := bchain (by repeat' (first | with_reducible exact Below.refl _ _ | with_reducible refine Below.drew ?_ | with_reducible refine below_drewN ?_ _ | with_reducible refine Below.alloc ?_ (by first | (simp; done) | (simp; omega) | omega) _ | with_reducible refine Below.setCell ?_ (by first | (simp; done) | (simp; omega) | omega) _)) hc14
      replace hbA := hbA.later hst14
      replace hbB := hbB.later hst14
      replace k0 := k0.later hst14
      replace hA12 := hA12.later hst14
      clear hst14
      clear hc14
      go_wp2_with fail
      refine wp_gen fun w15 hc15 => ?_
      have hb15 : Below w.heap.size w w15 := bchain (by repeat' (first | with_reducible exact hb14 | with_reducible refine Below.drew ?_ | with_reducible refine below_drewN ?_ _ | with_reducible refine Below.alloc ?_ (by have := hb14.size; first | (simp; done) | (simp; omega) | omega) _ | with_reducible refine Below.setCell ?_ (by first | (simp; done) | (simp; omega) | omega) _)) hc15
      have hst15 : Below w14.heap.size w14 w15 := bchain (by repeat' (first | with_reducible exact Below.refl _ _ | with_reducible refine Below.drew ?_ | with_reducible refine below_drewN ?_ _ | with_reducible refine Below.alloc ?_ (by first | (simp; done) | (simp; omega) | omega) _ | with_reducible refine Below.setCell ?_ (by first | (simp; done) | (simp; omega) | omega) _)) hc15
      replace hbA := hbA.later hst15
      replace hbB := hbB.later hst15
      replace k0 := k0.later hst15
      replace hA12 := hA12.later hst15
      replace hA14 := hA14.later hst15
      clear hst15
      have heq := H_pq.out
      refine wp_region_on_spec [(2, [], fun _ => VIs (.bool true)), (11, [], fun _ => VIs (.int .i64 X)), (14, [], fun _ => VIs (.int .i64 X)), (19, [], fun _ => VCells m0 (l.flatten.map (Value.int .u8))), (21, [], fun _ => VIs (.bool true))] [2, 11, 14, 19, 21] [] [(2, []), (11, []), (14, []), (19, []), (21, [])] (by kernel_rfl) (by kernel_rfl) rfl (by kernel_rfl) rfl (by kernel_rfl) ⟨fun _ => VIs.last, fun _ => VIs.last, fun _ => VIs.last, fun _ => VCells.last, fun _ => VIs.last, trivial⟩ ?_
      try simp only [List.take_succ_cons, List.take_zero, List.drop_succ_cons, List.drop_zero]
      refine wpSpec_quiet 2 (by kernel_rfl) (by kernel_rfl) ?_
      simp only [List.take_succ_cons, List.take_zero, List.drop_succ_cons, List.drop_zero]
      repeat (first | (refine wpQuiet_load_blk (by first | rfl | (simp [Region.wanted]; done)) 33 _ rfl (w11.heap.size) (by rfl) 33 pv _ hA12 Tryd.underlying33 rfl H_pi.out ?_; simp only [Act.put, List.setIfInBounds_toArray, List.set_cons_succ, List.set_cons_zero]) | (refine wpQuiet_load_blk (by first | rfl | (simp [Region.wanted]; done)) 33 _ rfl (w13.heap.size) (by rfl) 33 pv _ hA14 Tryd.underlying33 rfl H_pi.out ?_; simp only [Act.put, List.setIfInBounds_toArray, List.set_cons_succ, List.set_cons_zero]) | (refine wpQuiet_load_blk (by first | rfl | (simp [Region.wanted]; done)) 33 _ rfl (w.heap.size) (by rfl) 33 us _ hbA Tryd.underlying33 rfl H_hiu.out ?_; simp only [Act.put, List.setIfInBounds_toArray, List.set_cons_succ, List.set_cons_zero]) | (refine wpQuiet_load_blk (by first | rfl | (simp [Region.wanted]; done)) 33 _ rfl (w.heap.size + 1) (by rfl) 33 ts _ hbB Tryd.underlying33 rfl H_hit.out ?_; simp only [Act.put, List.setIfInBounds_toArray, List.set_cons_succ, List.set_cons_zero]) | (go_big_quiet_step (fail)))
      refine wpQuiet_nil ?_
      show wpSpec _ _ _ _ _ _ _ _ _ _ _
      refine wpSpec_at [] (VIs (.bool true)) rfl (by first | rfl | (simp [viewS, Act.eval]; done)) rfl (by first | rfl | (simp [Region.wanted]; done)) ?_ rfl ?_
      · intro wq hq hfq
        clear hfq
        unfold Oper.gives; go_simp; exact ⟨Below.refl _ _, rfl⟩
      rintro z2 ⟨_, ⟨_, rfl⟩⟩
      simp only [Act.put, List.setIfInBounds_toArray, List.set_cons_succ, List.set_cons_zero]
      refine wpSpec_quiet 8 (by kernel_rfl) (by kernel_rfl) ?_
      simp only [List.take_succ_cons, List.take_zero, List.drop_succ_cons, List.drop_zero]
      repeat (first | (refine wpQuiet_load_blk (by first | rfl | (simp [Region.wanted]; done)) 33 _ rfl (w11.heap.size) (by rfl) 33 pv _ hA12 Tryd.underlying33 rfl H_pi.out ?_; simp only [Act.put, List.setIfInBounds_toArray, List.set_cons_succ, List.set_cons_zero]) | (refine wpQuiet_load_blk (by first | rfl | (simp [Region.wanted]; done)) 33 _ rfl (w13.heap.size) (by rfl) 33 pv _ hA14 Tryd.underlying33 rfl H_pi.out ?_; simp only [Act.put, List.setIfInBounds_toArray, List.set_cons_succ, List.set_cons_zero]) | (refine wpQuiet_load_blk (by first | rfl | (simp [Region.wanted]; done)) 33 _ rfl (w.heap.size) (by rfl) 33 us _ hbA Tryd.underlying33 rfl H_hiu.out ?_; simp only [Act.put, List.setIfInBounds_toArray, List.set_cons_succ, List.set_cons_zero]) | (refine wpQuiet_load_blk (by first | rfl | (simp [Region.wanted]; done)) 33 _ rfl (w.heap.size + 1) (by rfl) 33 ts _ hbB Tryd.underlying33 rfl H_hit.out ?_; simp only [Act.put, List.setIfInBounds_toArray, List.set_cons_succ, List.set_cons_zero]) | (go_big_quiet_step (fail)))
      refine wpQuiet_nil ?_
      show wpSpec _ _ _ _ _ _ _ _ _ _ _
      refine wpSpec_at [] (VIs (.int .i64 X)) rfl (by first | rfl | (simp [viewS, Act.eval]; done)) rfl (by first | rfl | (simp [Region.wanted]; done)) ?_ rfl ?_
      · intro wq hq hfq
        clear hfq
        refine gives_call 23 _ _ #[.agg us.toArray, .agg ts.toArray] rfl (by kernel_rfl) (by simp [Act.eval]) ((HC1.out _).mono ?_)
        rintro e w' ⟨rfl, hb⟩
        exact ⟨_, rfl, hb, rfl⟩
      rintro z11 ⟨_, ⟨_, rfl⟩⟩
      simp only [Act.put, List.setIfInBounds_toArray, List.set_cons_succ, List.set_cons_zero]
      refine wpSpec_quiet 2 (by kernel_rfl) (by kernel_rfl) ?_
      simp only [List.take_succ_cons, List.take_zero, List.drop_succ_cons, List.drop_zero]
      repeat (first | (refine wpQuiet_load_blk (by first | rfl | (simp [Region.wanted]; done)) 33 _ rfl (w11.heap.size) (by rfl) 33 pv _ hA12 Tryd.underlying33 rfl H_pi.out ?_; simp only [Act.put, List.setIfInBounds_toArray, List.set_cons_succ, List.set_cons_zero]) | (refine wpQuiet_load_blk (by first | rfl | (simp [Region.wanted]; done)) 33 _ rfl (w13.heap.size) (by rfl) 33 pv _ hA14 Tryd.underlying33 rfl H_pi.out ?_; simp only [Act.put, List.setIfInBounds_toArray, List.set_cons_succ, List.set_cons_zero]) | (refine wpQuiet_load_blk (by first | rfl | (simp [Region.wanted]; done)) 33 _ rfl (w.heap.size) (by rfl) 33 us _ hbA Tryd.underlying33 rfl H_hiu.out ?_; simp only [Act.put, List.setIfInBounds_toArray, List.set_cons_succ, List.set_cons_zero]) | (refine wpQuiet_load_blk (by first | rfl | (simp [Region.wanted]; done)) 33 _ rfl (w.heap.size + 1) (by rfl) 33 ts _ hbB Tryd.underlying33 rfl H_hit.out ?_; simp only [Act.put, List.setIfInBounds_toArray, List.set_cons_succ, List.set_cons_zero]) | (go_big_quiet_step (fail)))
      refine wpQuiet_nil ?_
      show wpSpec _ _ _ _ _ _ _ _ _ _ _
      refine wpSpec_at [] (VIs (.int .i64 X)) rfl (by first | rfl | (simp [viewS, Act.eval]; done)) rfl (by first | rfl | (simp [Region.wanted]; done)) ?_ rfl ?_
      · intro wq hq hfq
        clear hfq
        refine gives_call 24 _ _ #[.agg us.toArray, .agg ts.toArray] rfl (by kernel_rfl) (by simp [Act.eval]) ((HC2.out _).mono ?_)
        rintro e w' ⟨rfl, hb⟩
        exact ⟨_, rfl, hb, rfl⟩
      rintro z14 ⟨_, ⟨_, rfl⟩⟩
      simp only [Act.put, List.setIfInBounds_toArray, List.set_cons_succ, List.set_cons_zero]
      refine wpSpec_quiet 4 (by kernel_rfl) (by kernel_rfl) ?_
      simp only [List.take_succ_cons, List.take_zero, List.drop_succ_cons, List.drop_zero]
      repeat (first | (refine wpQuiet_load_blk (by first | rfl | (simp [Region.wanted]; done)) 33 _ rfl (w11.heap.size) (by rfl) 33 pv _ hA12 Tryd.underlying33 rfl H_pi.out ?_; simp only [Act.put, List.setIfInBounds_toArray, List.set_cons_succ, List.set_cons_zero]) | (refine wpQuiet_load_blk (by first | rfl | (simp [Region.wanted]; done)) 33 _ rfl (w13.heap.size) (by rfl) 33 pv _ hA14 Tryd.underlying33 rfl H_pi.out ?_; simp only [Act.put, List.setIfInBounds_toArray, List.set_cons_succ, List.set_cons_zero]) | (refine wpQuiet_load_blk (by first | rfl | (simp [Region.wanted]; done)) 33 _ rfl (w.heap.size) (by rfl) 33 us _ hbA Tryd.underlying33 rfl H_hiu.out ?_; simp only [Act.put, List.setIfInBounds_toArray, List.set_cons_succ, List.set_cons_zero]) | (refine wpQuiet_load_blk (by first | rfl | (simp [Region.wanted]; done)) 33 _ rfl (w.heap.size + 1) (by rfl) 33 ts _ hbB Tryd.underlying33 rfl H_hit.out ?_; simp only [Act.put, List.setIfInBounds_toArray, List.set_cons_succ, List.set_cons_zero]) | (go_big_quiet_step (fail)))
      refine wpQuiet_nil ?_
      show wpSpec _ _ _ _ _ _ _ _ _ _ _
      refine wpSpec_at [] (VCells m0 (l.flatten.map (Value.int .u8))) rfl (by first | rfl | (simp [viewS, Act.eval]; done)) rfl (by first | rfl | (simp [Region.wanted]; done)) ?_ rfl ?_
      · intro wq hq hfq
        clear hfq
        refine gives_call 18 _ _ #[.slice a n c] rfl (by kernel_rfl) (by simp [Act.eval]) ((whole_any l vs a n c _ ((hP.later hb15).later hq) H_hn.out HS.out).mono ?_)
        rintro e w' ⟨⟨a9, m9, c9, rfl, hm9, o9⟩, hb⟩
        rw [hm9, ← Hm0.out] at o9
        exact ⟨_, by rw [hm9, ← Hm0.out], hb, VOwn.cells ⟨_, _, rfl, o9⟩⟩
      rintro z19 ⟨_, ⟨a9, c9, rfl, _, _⟩⟩
      simp only [Act.put, List.setIfInBounds_toArray, List.set_cons_succ, List.set_cons_zero]
      refine wpSpec_quiet 1 (by kernel_rfl) (by kernel_rfl) ?_
      simp only [List.take_succ_cons, List.take_zero, List.drop_succ_cons, List.drop_zero]
      repeat (first | (refine wpQuiet_load_blk (by first | rfl | (simp [Region.wanted]; done)) 33 _ rfl (w11.heap.size) (by rfl) 33 pv _ hA12 Tryd.underlying33 rfl H_pi.out ?_; simp only [Act.put, List.setIfInBounds_toArray, List.set_cons_succ, List.set_cons_zero]) | (refine wpQuiet_load_blk (by first | rfl | (simp [Region.wanted]; done)) 33 _ rfl (w13.heap.size) (by rfl) 33 pv _ hA14 Tryd.underlying33 rfl H_pi.out ?_; simp only [Act.put, List.setIfInBounds_toArray, List.set_cons_succ, List.set_cons_zero]) | (refine wpQuiet_load_blk (by first | rfl | (simp [Region.wanted]; done)) 33 _ rfl (w.heap.size) (by rfl) 33 us _ hbA Tryd.underlying33 rfl H_hiu.out ?_; simp only [Act.put, List.setIfInBounds_toArray, List.set_cons_succ, List.set_cons_zero]) | (refine wpQuiet_load_blk (by first | rfl | (simp [Region.wanted]; done)) 33 _ rfl (w.heap.size + 1) (by rfl) 33 ts _ hbB Tryd.underlying33 rfl H_hit.out ?_; simp only [Act.put, List.setIfInBounds_toArray, List.set_cons_succ, List.set_cons_zero]) | (go_big_quiet_step (fail)))
      refine wpQuiet_nil ?_
      show wpSpec _ _ _ _ _ _ _ _ _ _ _
      refine wpSpec_at [] (VIs (.bool true)) rfl (by first | rfl | (simp [viewS, Act.eval]; done)) rfl (by first | rfl | (simp [Region.wanted]; done)) ?_ rfl ?_
      · intro wq hq hfq
        have f19 := hfq 19 (by kernel_rfl)
        simp only [upd, Nat.beq, cond] at f19
        clear hfq
        obtain ⟨a9', c9', he9, _, k9⟩ := f19
        cases he9
        refine gives_call 14 _ _ #[.slice a9 m0 c9, .slice a0 m0 c0] rfl (by kernel_rfl) (by simp [Act.eval]) ((sameBytes_self l.flatten a9 a0 m0 m0 c9 c0 _ Hm0.out Hm0.out (by have := Hm0.out; have := HS.out; omega) k9 (k0.later hq)).mono ?_)
        rintro e w' ⟨rfl, hb⟩
        exact ⟨_, rfl, hb, rfl⟩
      rintro z21 ⟨_, ⟨_, rfl⟩⟩
      simp only [Act.put, List.setIfInBounds_toArray, List.set_cons_succ, List.set_cons_zero]
      refine wpSpec_quiet 2 (by kernel_rfl) (by kernel_rfl) ?_
      simp only [List.take_succ_cons, List.take_zero, List.drop_succ_cons, List.drop_zero]
      repeat (first | (refine wpQuiet_load_blk (by first | rfl | (simp [Region.wanted]; done)) 33 _ rfl (w11.heap.size) (by rfl) 33 pv _ hA12 Tryd.underlying33 rfl H_pi.out ?_; simp only [Act.put, List.setIfInBounds_toArray, List.set_cons_succ, List.set_cons_zero]) | (refine wpQuiet_load_blk (by first | rfl | (simp [Region.wanted]; done)) 33 _ rfl (w13.heap.size) (by rfl) 33 pv _ hA14 Tryd.underlying33 rfl H_pi.out ?_; simp only [Act.put, List.setIfInBounds_toArray, List.set_cons_succ, List.set_cons_zero]) | (refine wpQuiet_load_blk (by first | rfl | (simp [Region.wanted]; done)) 33 _ rfl (w.heap.size) (by rfl) 33 us _ hbA Tryd.underlying33 rfl H_hiu.out ?_; simp only [Act.put, List.setIfInBounds_toArray, List.set_cons_succ, List.set_cons_zero]) | (refine wpQuiet_load_blk (by first | rfl | (simp [Region.wanted]; done)) 33 _ rfl (w.heap.size + 1) (by rfl) 33 ts _ hbB Tryd.underlying33 rfl H_hit.out ?_; simp only [Act.put, List.setIfInBounds_toArray, List.set_cons_succ, List.set_cons_zero]) | (go_big_quiet_step (fail)))
      refine wpQuiet_nil ?_
      show wpSpec _ _ _ _ _ _ _ _ _ _ _
      intro w16 hc16 hfq
      clear hfq
      have hb16 : Below w.heap.size w w16 := bchain (by repeat' (first | with_reducible exact hb15 | with_reducible refine Below.drew ?_ | with_reducible refine below_drewN ?_ _ | with_reducible refine Below.alloc ?_ (by have := hb15.size; first | (simp; done) | (simp; omega) | omega) _ | with_reducible refine Below.setCell ?_ (by first | (simp; done) | (simp; omega) | omega) _)) hc16
      have hst16 : Below w15.heap.size w15 w16 := bchain (by repeat' (first | with_reducible exact Below.refl _ _ | with_reducible refine Below.drew ?_ | with_reducible refine below_drewN ?_ _ | with_reducible refine Below.alloc ?_ (by first | (simp; done) | (simp; omega) | omega) _ | with_reducible refine Below.setCell ?_ (by first | (simp; done) | (simp; omega) | omega) _)) hc16
      replace hbA := hbA.later hst16
      replace hbB := hbB.later hst16
      replace k0 := k0.later hst16
      replace hA12 := hA12.later hst16
      replace hA14 := hA14.later hst16
      clear hst16
      go_wp2_with fail
      go_ret
      exact ⟨rfl, hb16⟩

theorem sums_full {l : List (List Int)} (hsum : l.flatten.length ≤ 70368744177664) (vs : List Value) (a : Option Addr) (c : Nat) (xs ys : List Int) (w : World) (hP : PiecesIn w a vs l) (hx : IdIn xs) (hy : IdIn ys) (hK : CellsAt w (some ⟨0, 0, none⟩) (kcs.map (Value.int .u32)) ∧ 0 < w.heap.size) :
    Calls Tryd.prog 4 #[.slice a l.length c, .agg (xs.map (Value.int .u8)).toArray, .agg (ys.map (Value.int .u8)).toArray] w fun e w' =>
      e = .returned (.bool true) ∧ Below w.heap.size w w' := sums_walk l vs a c xs ys w hP hx hy hsum hK.1 hK.2

end Go.Proofs.YtlilodfddojlhaaDoor
