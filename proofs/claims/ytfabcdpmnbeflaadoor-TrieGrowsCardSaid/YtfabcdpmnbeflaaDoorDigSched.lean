/- The words of a block. -/
import Derived.Test.YtfabcdpmnbeflaaDoorDigRot
import Derived.Test.YtfabcdpmnbeflaaDoorBlk
import Derived.Deep.QuietTactic
import Derived.BigQuiet
import Derived.StillTailTactics
namespace Go.Proofs.YtfabcdpmnbeflaaDoor
set_option maxRecDepth 100000
set_option linter.unusedSimpArgs false
set_option linter.unusedVariables false
set_option linter.unnecessarySimpa false
open Go.RowKit

def arr (bs : List Int) : Nat → List Int
  | 0 => List.replicate 64 0
  | i + 1 => (arr bs i).set (i / 4) (bits BinOp.or IntKind.u32 ((arr bs i)[i / 4]?.getD 0 * 256 % 4294967296) (bs[i]?.getD 0))
theorem arr_len (bs : List Int) : ∀ i, (arr bs i).length = 64
  | 0 => List.length_replicate ..
  | i + 1 => by rw [arr, List.length_set]; exact arr_len bs i

/-- The word at place T out of the words before. -/
def sg0 (x : Int) : Int := bits BinOp.xor IntKind.u32 (bits BinOp.xor IntKind.u32 (rotr x 7) (rotr x 18)) (x / 8)
def sg1 (x : Int) : Int := bits BinOp.xor IntKind.u32 (bits BinOp.xor IntKind.u32 (rotr x 17) (rotr x 19)) (x / 1024)
def arwNext (l : List Int) (T : Nat) : Int := (l[T - 16]?.getD 0 + l[T - 7]?.getD 0 + sg0 (l[T - 15]?.getD 0) + sg1 (l[T - 2]?.getD 0)) % 4294967296
def arw (bs : List Int) : Nat → List Int
  | 0 => arr bs 64
  | k + 1 => (arw bs k).set (16 + k) (arwNext (arw bs k) (16 + k))
theorem arw_zero (bs : List Int) : arw bs 0 = arr bs 64 := rfl
theorem arw_len (bs : List Int) : ∀ i, (arw bs i).length = 64
  | 0 => arr_len bs 64
  | i + 1 => by rw [arw, List.length_set]; exact arw_len bs i
def Rng32 (l : List Int) : Prop := ∀ x ∈ l, 0 ≤ x ∧ x < 4294967296
theorem Rng32.at {l : List Int} (h : Rng32 l) (j : Nat) : 0 ≤ l[j]?.getD 0 ∧ l[j]?.getD 0 < 4294967296 := by
  by_cases hj : j < l.length
  · rw [List.getElem?_eq_getElem hj]; exact h _ (List.getElem_mem hj)
  · rw [List.getElem?_eq_none (by omega)]; simp
theorem Rng32.set {l : List Int} (h : Rng32 l) (j : Nat) {x : Int} (hx : 0 ≤ x ∧ x < 4294967296) : Rng32 (l.set j x) := fun y hy => by
  rcases List.mem_or_eq_of_mem_set hy with h1 | h1
  · exact h y h1
  · subst h1; exact hx
theorem arr_rng32 (bs : List Int) : ∀ i, Rng32 (arr bs i)
  | 0 => fun x hx => by have := (List.mem_replicate.1 hx).2; subst this; omega
  | i + 1 => (arr_rng32 bs i).set _ (or_rng32 _ _)
theorem arwNext_rng (l : List Int) (T : Nat) : 0 ≤ arwNext l T ∧ arwNext l T < 4294967296 := by unfold arwNext; omega
theorem arw_rng32 (bs : List Int) : ∀ i, Rng32 (arw bs i)
  | 0 => arr_rng32 bs 64
  | i + 1 => (arw_rng32 bs i).set _ (arwNext_rng _ _)
theorem arw_rng (bs : List Int) (k j : Nat) : 0 ≤ (arw bs k)[j]?.getD 0 ∧ (arw bs k)[j]?.getD 0 < 4294967296 := (arw_rng32 bs k).at j

set_option maxRecDepth 100000 in
set_option maxHeartbeats 4000000 in
theorem sched_any (bs : List Int) (n c : Nat) (a : Option Addr) (w : World) (h64 : 64 ≤ n) (hn : n ≤ bs.length) (hc : CellsAt w a (bs.map (Value.int .u8))) (hnc : n ≤ c) (hcm : c ≤ maxLen) (hb : ∀ x ∈ bs, 0 ≤ x ∧ x < 256) :
    Calls Tryd.prog 76 #[.slice a n c] w fun e w' =>
      e = .returned (.agg ((arw bs 48).map (Value.int .u32)).toArray) ∧ Below w.heap.size w w' := by
  unfold maxLen at hcm
  obtain ⟨b, o, rfl, hcell⟩ := hc.int (by omega)
  have hH := hid hcell
  clear hcell
  have i1 : (64 : Int) ≤ (c : Int) := by omega
  go_enter Tryd.func76, Tryd.ntmps76
  have hb0 := Below.refl w.heap.size w
  go_wp2_with fail
  refine wp_gen fun w1 hc1 => ?_
  have hB : Blk w1 w.heap.size 111 ((arr bs 0).map (Value.int .u32)) := Blk.later (Blk.newA _ _ _ _ _ rfl (by rfl)) hc1
  have hb1 : Below w.heap.size w w1 := bchain (by repeat' (first | with_reducible exact hb0 | with_reducible refine Below.drew ?_ | with_reducible refine below_drewN ?_ _ | with_reducible refine Below.alloc ?_ (by have := hb0.size; first | (simp; done) | (simp; omega) | omega) _ | with_reducible refine Below.setCell ?_ (by first | (simp; done) | (simp; omega) | omega) _)) hc1
  clear hc1
  go_loopw [13] (fun q wr => ∃ i : Nat, i ≤ 64 ∧ q = .int .i64 i ∧ Below w.heap.size w wr ∧ Blk wr w.heap.size 111 ((arr bs i).map (Value.int .u32))) (fun q _ => 64 - (intOf q).toNat)
  case atStart => exact ⟨0, by omega, rfl, hb1, hB⟩
  case round =>
    obtain ⟨i, hi, rfl, hbw, hB⟩ := hrel
    by_cases hlt : i < 64
    · have hlt' : (i : Int) < 64 := by omega
      obtain ⟨q, hq⟩ : ∃ q : Nat, q = i / 4 := ⟨_, rfl⟩
      have hq16 : q < 16 := by omega
      have hqi : (i : Int) / 4 = (q : Int) := by omega
      have hq0 : (q : Int) < 64 := by omega
      have c1 := cell_later hbw (hH.out i (by omega))
      have c2 := hB.cellI (j := q) (by rw [arr_len]; omega)
      have c3 := hB.free q
      have x1 := hb (bs[i]?.getD 0) (by rw [List.getElem?_eq_getElem (by omega)]; exact List.getElem_mem _)
      obtain ⟨x, hx⟩ : ∃ x, x = bs[i]?.getD 0 := ⟨_, rfl⟩
      obtain ⟨y, hy⟩ : ∃ y, y = (arr bs i)[q]?.getD 0 := ⟨_, rfl⟩
      rw [← hx] at c1 x1
      rw [← hy] at c2
      obtain ⟨x2, x3⟩ := x1
      have H_hx := hid hx
      have H_hy := hid hy
      have H_hq := hid hq
      clear hx hy hq
      go_wp2_with fail
      go_roundw
      case rel => exact ⟨i + 1, by omega, by go_num, by repeat' (first | with_reducible exact hbw | with_reducible refine Below.setCell ?_ (by first | (simp; done) | (simp; omega) | omega) _), by have := hB.setI q (bits BinOp.or IntKind.u32 (y * 256 % 4294967296) x); rw [H_hx.out, H_hy.out, H_hq.out] at this; rw [H_hx.out, H_hy.out, H_hq.out]; exact this⟩
      case measure => simp [intOf]; omega
    · have hge : (64 : Int) ≤ (i : Int) := by omega
      have hi64 : i = 64 := by omega
      rw [hi64] at hB
      have H_hi64 := hid hi64
      clear hi64
      go_wp2_with fail
      obtain ⟨w2, hw2⟩ : ∃ w2, w2 = wr := ⟨wr, rfl⟩
      subst hw2
      go_loopw [5] (fun q wr => ∃ k : Nat, k ≤ 48 ∧ q = .int .i64 ((16 + k : Nat) : Int) ∧ Below w.heap.size w wr ∧ Blk wr w.heap.size 111 ((arw bs k).map (Value.int .u32))) (fun q _ => 64 - (intOf q).toNat)
      case atStart => exact ⟨0, by omega, rfl, hbw, by rw [arw_zero]; exact hB⟩
      case round =>
        obtain ⟨k, hk, rfl, hbx, hB⟩ := hrel
        by_cases hlt : k < 48
        · have hl := arw_len bs k
          obtain ⟨T, hT⟩ : ∃ T : Nat, T = 16 + k := ⟨_, rfl⟩
          have hT16 : (16 : Int) ≤ (T : Int) := by omega
          have hT64 : (T : Int) < 64 := by omega
          obtain ⟨A, hA⟩ : ∃ A : Nat, A = T - 15 := ⟨_, rfl⟩
          obtain ⟨B, hB'⟩ : ∃ B : Nat, B = T - 2 := ⟨_, rfl⟩
          obtain ⟨C, hC⟩ : ∃ C : Nat, C = T - 16 := ⟨_, rfl⟩
          obtain ⟨D, hD⟩ : ∃ D : Nat, D = T - 7 := ⟨_, rfl⟩
          have eA : (T : Int) - 15 = (A : Int) := by omega
          have eB : (T : Int) - 2 = (B : Int) := by omega
          have eC : (T : Int) - 16 = (C : Int) := by omega
          have eD : (T : Int) - 7 = (D : Int) := by omega
          have zA : (A : Int) < 64 := by omega
          have zB : (B : Int) < 64 := by omega
          have zC : (C : Int) < 64 := by omega
          have zD : (D : Int) < 64 := by omega
          have cA := hB.cellI (j := A) (by omega)
          have cB := hB.cellI (j := B) (by omega)
          have rA := arw_rng bs k A
          have rB := arw_rng bs k B
          generalize hxA : (arw bs k)[A]?.getD 0 = xA at *
          generalize hxB : (arw bs k)[B]?.getD 0 = xB at *
          obtain ⟨rA0, rA1⟩ := rA
          obtain ⟨rB0, rB1⟩ := rB
          have hC64 : C < 64 := by omega
          have hD64 : D < 64 := by omega
          have hT64' : T < 64 := by omega
          rw [← hT]
          have H_hl := hid hl
          have H_hA := hid hA
          have H_hB' := hid hB'
          have H_hC := hid hC
          have H_hD := hid hD
          have H_hT := hid hT
          have H_hxA := hid hxA
          have H_hxB := hid hxB
          clear hl hA hB' hC hD hT hxA hxB
          go_wp2_with fail
          go_quiet (fail)
          clear cA cB
          go_wp2_with fail
          with_reducible refine (rotl_any xA (-7) 7 _ (by omega) (by omega) (by omega) rA0 rA1).mono ?_
          rintro e w3 ⟨rfl, hc3⟩
          have hb3 : Below w.heap.size w w3 := bchain (by repeat' (first | with_reducible exact hbx | with_reducible refine Below.drew ?_ | with_reducible refine below_drewN ?_ _ | with_reducible refine Below.alloc ?_ (by have := hbx.size; first | (simp; done) | (simp; omega) | omega) _ | with_reducible refine Below.setCell ?_ (by first | (simp; done) | (simp; omega) | omega) _)) hc3
          have hst3 : Below wr.heap.size wr w3 := bchain (by repeat' (first | with_reducible exact Below.refl _ _ | with_reducible refine Below.drew ?_ | with_reducible refine below_drewN ?_ _ | with_reducible refine Below.alloc ?_ (by first | (simp; done) | (simp; omega) | omega) _ | with_reducible refine Below.setCell ?_ (by first | (simp; done) | (simp; omega) | omega) _)) hc3
          replace hB := hB.later hst3
          clear hst3
          clear hc3 hbx
          go_wp2_with fail
          with_reducible refine (rotl_any xA (-18) 18 _ (by omega) (by omega) (by omega) rA0 rA1).mono ?_
          rintro e w4 ⟨rfl, hc4⟩
          have hb4 : Below w.heap.size w w4 := bchain (by repeat' (first | with_reducible exact hb3 | with_reducible refine Below.drew ?_ | with_reducible refine below_drewN ?_ _ | with_reducible refine Below.alloc ?_ (by have := hb3.size; first | (simp; done) | (simp; omega) | omega) _ | with_reducible refine Below.setCell ?_ (by first | (simp; done) | (simp; omega) | omega) _)) hc4
          have hst4 : Below w3.heap.size w3 w4 := bchain (by repeat' (first | with_reducible exact Below.refl _ _ | with_reducible refine Below.drew ?_ | with_reducible refine below_drewN ?_ _ | with_reducible refine Below.alloc ?_ (by first | (simp; done) | (simp; omega) | omega) _ | with_reducible refine Below.setCell ?_ (by first | (simp; done) | (simp; omega) | omega) _)) hc4
          replace hB := hB.later hst4
          clear hst4
          clear hc4 hb3
          go_wp2_with fail
          with_reducible refine (rotl_any xB (-17) 17 _ (by omega) (by omega) (by omega) rB0 rB1).mono ?_
          rintro e w5 ⟨rfl, hc5⟩
          have hb5 : Below w.heap.size w w5 := bchain (by repeat' (first | with_reducible exact hb4 | with_reducible refine Below.drew ?_ | with_reducible refine below_drewN ?_ _ | with_reducible refine Below.alloc ?_ (by have := hb4.size; first | (simp; done) | (simp; omega) | omega) _ | with_reducible refine Below.setCell ?_ (by first | (simp; done) | (simp; omega) | omega) _)) hc5
          have hst5 : Below w4.heap.size w4 w5 := bchain (by repeat' (first | with_reducible exact Below.refl _ _ | with_reducible refine Below.drew ?_ | with_reducible refine below_drewN ?_ _ | with_reducible refine Below.alloc ?_ (by first | (simp; done) | (simp; omega) | omega) _ | with_reducible refine Below.setCell ?_ (by first | (simp; done) | (simp; omega) | omega) _)) hc5
          replace hB := hB.later hst5
          clear hst5
          clear hc5 hb4
          go_wp2_with fail
          with_reducible refine (rotl_any xB (-19) 19 _ (by omega) (by omega) (by omega) rB0 rB1).mono ?_
          rintro e w6 ⟨rfl, hc6⟩
          have hb6 : Below w.heap.size w w6 := bchain (by repeat' (first | with_reducible exact hb5 | with_reducible refine Below.drew ?_ | with_reducible refine below_drewN ?_ _ | with_reducible refine Below.alloc ?_ (by have := hb5.size; first | (simp; done) | (simp; omega) | omega) _ | with_reducible refine Below.setCell ?_ (by first | (simp; done) | (simp; omega) | omega) _)) hc6
          have hst6 : Below w5.heap.size w5 w6 := bchain (by repeat' (first | with_reducible exact Below.refl _ _ | with_reducible refine Below.drew ?_ | with_reducible refine below_drewN ?_ _ | with_reducible refine Below.alloc ?_ (by first | (simp; done) | (simp; omega) | omega) _ | with_reducible refine Below.setCell ?_ (by first | (simp; done) | (simp; omega) | omega) _)) hc6
          replace hB := hB.later hst6
          clear hst6
          clear hc6 hb5
          have cC := hB.cellI (j := C) (by have := H_hl.out; omega)
          have cD := hB.cellI (j := D) (by have := H_hl.out; omega)
          have cT := hB.cellI (j := T) (by have := H_hl.out; omega)
          have fT := hB.free T
          have hset := hB.setI T (arwNext (arw bs k) (16 + k))
          generalize hxC : (arw bs k)[C]?.getD 0 = xC at *
          generalize hxD : (arw bs k)[D]?.getD 0 = xD at *
          generalize hxT : (arw bs k)[T]?.getD 0 = xT at *
          have H_hset := hid hset
          have H_hxC := hid hxC
          have H_hxD := hid hxD
          have H_hxT := hid hxT
          clear hset hxC hxD hxT
          go_wp2_with fail
          go_region
          all_goals go_wp2_with fail
          go_roundw
          case rel =>
            refine ⟨k + 1, by omega, congrArg (Value.int .i64) (by have := H_hT.out; omega), (by repeat' (first | with_reducible exact hb6 | with_reducible refine Below.drew ?_ | with_reducible refine below_drewN ?_ _ | with_reducible refine Below.alloc ?_ (by have := hb6.size; first | (simp; done) | (simp; omega) | omega) _ | with_reducible refine Below.setCell ?_ (by first | (simp; done) | (simp; omega) | omega) _)), ?_⟩
            have hs := H_hset.out
            unfold arwNext at hs
            rw [← H_hT.out, ← H_hC.out, ← H_hD.out, ← H_hA.out, ← H_hB'.out, H_hxC.out, H_hxD.out, H_hxA.out, H_hxB.out] at hs
            have hg : arw bs (k + 1) = (arw bs k).set T (arwNext (arw bs k) T) := by rw [H_hT.out]; rfl
            rw [hg]
            unfold arwNext
            rw [← H_hC.out, ← H_hD.out, ← H_hA.out, ← H_hB'.out, H_hxC.out, H_hxD.out, H_hxA.out, H_hxB.out]
            unfold sg0 sg1 at hs ⊢
            exact hs.drew
          case measure => simp [intOf]; omega
        · have hge2 : (64 : Int) ≤ ((16 + k : Nat) : Int) := by omega
          have hk48 : k = 48 := by omega
          rw [hk48] at hB
          obtain ⟨T, hT⟩ : ∃ T : Nat, T = 16 + k := ⟨_, rfl⟩
          rw [← hT]
          rw [← hT] at hge2
          obtain ⟨vs, hvs⟩ : ∃ vs, vs = (arw bs 48).map (Value.int .u32) := ⟨_, rfl⟩
          have hvl : 64 = vs.length := by rw [hvs, List.length_map, arw_len]
          have ho : ∀ v ∈ vs, v.oneCell' = true := by rw [hvs]; exact oneCell_ints _ _
          rw [← hvs] at hB
          have hi : (Tryd.prog.info? 111).map (·.size) = some vs.length := by rw [← hvl]; kernel_rfl
          have H_hvl := hid hvl
          have H_hk48 := hid hk48
          have H_hT := hid hT
          have H_hvs := hid hvs
          have H_ho := hid ho
          have H_hi := hid hi
          clear hvl hk48 hT hvs ho hi
          go_wp2_with (first | (refine wpList_load_blk rfl 111 _ rfl w.heap.size (by rfl) 111 vs _ hB Tryd.underlying111 rfl H_hi.out ?_) | (refine wpList_store_blk rfl 111 _ _ rfl w.heap.size (by rfl) 111 vs vs (by rfl) hB rfl H_hi.out H_ho.out ?_; intro w7 hB7 he7))
          have hb7 : Below w.heap.size w w7 := he7 ▸ below_setCells (Nat.le_refl _) _ _ _ hbx
          exact bodyPost_ret (results_blk (by rfl) _ _ w.heap.size 111 _ _ rfl hB7 Tryd.underlying111 rfl H_hi.out) rfl ⟨by rw [H_hvs.out], hb7⟩

end Go.Proofs.YtfabcdpmnbeflaaDoor
