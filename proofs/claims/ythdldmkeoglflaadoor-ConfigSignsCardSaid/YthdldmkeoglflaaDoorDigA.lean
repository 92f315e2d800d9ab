/- DigA: DigRot, DigSched, DigGrindP, DigGrind, DigBytes, DigConcat, DigFeed, DigConsts, DigEq. -/
import Derived.Test.YthdldmkeoglflaaDoorMem4
import Derived.Test.YthdldmkeoglflaaDoorRows
import Derived.RegionTactic
import Derived.Test.YthdldmkeoglflaaDoorBlk
import Derived.Deep.QuietTactic
import Derived.BigQuiet
import Derived.StillTailTactics
import Derived.Deep.DeepCutAuto
import Derived.Test.YthdldmkeoglflaaDoorCup
import Derived.Test.YthdldmkeoglflaaDoorIns
import Derived.Deep.RegionHeld3
import Derived.Test.YthdldmkeoglflaaDoorAppK
/- Words that are turned. -/
namespace Go.Proofs.YthdldmkeoglflaaDoor
set_option maxRecDepth 100000
set_option linter.unusedSimpArgs false
set_option linter.unusedVariables false
set_option linter.unnecessarySimpa false
open Go.RowKit

/-- x turned right by n. -/
def rotr (x : Int) (n : Nat) : Int := bits BinOp.or IntKind.u32 (x / 2 ^ n) (x * 2 ^ (32 - n) % 4294967296)
def mixF (x : Int) (i j k : Nat) : Int := bits BinOp.xor IntKind.u32 (bits BinOp.xor IntKind.u32 (rotr x i) (rotr x j)) (rotr x k)
theorem bits_or_comm32 (a b : Int) : bits BinOp.or IntKind.u32 a b = bits BinOp.or IntKind.u32 b a := by
  show IntKind.u32.wrap ((BitVec.ofInt 32 a ||| BitVec.ofInt 32 b).toNat : Int) = IntKind.u32.wrap ((BitVec.ofInt 32 b ||| BitVec.ofInt 32 a).toNat : Int)
  rw [BitVec.or_comm]
theorem wrap_rng32 (a : Int) : 0 ≤ IntKind.u32.wrap a ∧ IntKind.u32.wrap a < 4294967296 := by rw [IntKind.wrap_u32]; omega
theorem or_rng32 (a b : Int) : 0 ≤ bits BinOp.or IntKind.u32 a b ∧ bits BinOp.or IntKind.u32 a b < 4294967296 := wrap_rng32 _
theorem xor_rng32 (a b : Int) : 0 ≤ bits BinOp.xor IntKind.u32 a b ∧ bits BinOp.xor IntKind.u32 a b < 4294967296 := wrap_rng32 _
theorem and_rng32 (a b : Int) : 0 ≤ bits BinOp.and IntKind.u32 a b ∧ bits BinOp.and IntKind.u32 a b < 4294967296 := wrap_rng32 _
theorem rotr_rng (x : Int) (n : Nat) : 0 ≤ rotr x n ∧ rotr x n < 4294967296 := or_rng32 _ _
theorem mixF_rng (x : Int) (i j k : Nat) : 0 ≤ mixF x i j k ∧ mixF x i j k < 4294967296 := xor_rng32 _ _
theorem and31 : ∀ n : Fin 32, 1 ≤ n.val → bits BinOp.and IntKind.u64 (IntKind.u64.wrap (-(n.val : Int))) 31 = ((32 - n.val : Nat) : Int) := by decide +kernel
theorem rotl_any (x k : Int) (n : Nat) (w : World) (h0 : 1 ≤ n) (h1 : n ≤ 31) (hk : k = -n) (hx0 : 0 ≤ x) (hx1 : x < 4294967296) :
    Calls Tryd.prog 143 #[.int .u32 x, .int .i64 k] w fun e w' =>
      e = .returned (.int .u32 (rotr x n)) ∧ Below w.heap.size w w' := by
  subst hk
  obtain ⟨s, hs⟩ : ∃ s, s = 32 - n := ⟨_, rfl⟩
  have hA := and31 ⟨n, by omega⟩ h0
  simp only at hA
  rw [← hs] at hA
  have hE : (32 : Int) - (s : Int) = (n : Int) := by omega
  have hB : (1 : Int) ≤ (s : Int) := by omega
  have hD : (s : Int) ≤ 31 := by omega
  have hr : bits BinOp.or IntKind.u32 (x * 2 ^ s % 4294967296) (x / 2 ^ n) = rotr x n := by rw [bits_or_comm32, hs]; rfl
  have Hr := hid hr
  have Hs := hid hs
  clear hr hs
  go_enter Tryd.func143, Tryd.ntmps143
  have hb0 := Below.refl w.heap.size w
  go_wp2_with fail
  go_ret
  exact ⟨ret_int Hr.out, hb0⟩
theorem mix_any (x i j k : Int) (a b c : Nat) (w : World) (hi : i = a) (hj : j = b) (hk : k = c) (ha : 1 ≤ a ∧ a ≤ 31) (hb : 1 ≤ b ∧ b ≤ 31) (hc : 1 ≤ c ∧ c ≤ 31) (hx0 : 0 ≤ x) (hx1 : x < 4294967296) :
    Calls Tryd.prog 140 #[.int .u32 x, .int .i64 i, .int .i64 j, .int .i64 k] w fun e w' =>
      e = .returned (.int .u32 (mixF x a b c)) ∧ Below w.heap.size w w' := by
  subst hi hj hk
  obtain ⟨ha0, ha1⟩ := ha
  obtain ⟨hb0', hb1'⟩ := hb
  obtain ⟨hc0, hc1⟩ := hc
  have za : -31 ≤ -(a : Int) := by omega
  have zb : -31 ≤ -(b : Int) := by omega
  have zc : -31 ≤ -(c : Int) := by omega
  go_enter Tryd.func140, Tryd.ntmps140
  have hb0 := Below.refl w.heap.size w
  go_wp2_with fail
  with_reducible refine (rotl_any x (-(a : Int)) a _ ha0 ha1 rfl hx0 hx1).mono ?_
  rintro e w1 ⟨rfl, hc1⟩
  have hb1 : Below w.heap.size w w1 := bchain (by repeat' (first | with_reducible exact hb0 | with_reducible refine Below.drew ?_ | with_reducible refine below_drewN ?_ _ | with_reducible refine Below.alloc ?_ (by have := hb0.size; first | (simp; done) | (simp; omega) | omega) _ | with_reducible refine Below.setCell ?_ (by first | (simp; done) | (simp; omega) | omega) _)) hc1
  clear hc1 hb0
  go_wp2_with fail
  with_reducible refine (rotl_any x (-(b : Int)) b _ hb0' hb1' rfl hx0 hx1).mono ?_
  rintro e w2 ⟨rfl, hc2⟩
  have hb2 : Below w.heap.size w w2 := bchain (by repeat' (first | with_reducible exact hb1 | with_reducible refine Below.drew ?_ | with_reducible refine below_drewN ?_ _ | with_reducible refine Below.alloc ?_ (by have := hb1.size; first | (simp; done) | (simp; omega) | omega) _ | with_reducible refine Below.setCell ?_ (by first | (simp; done) | (simp; omega) | omega) _)) hc2
  clear hc2 hb1
  go_wp2_with fail
  with_reducible refine (rotl_any x (-(c : Int)) c _ hc0 hc1 rfl hx0 hx1).mono ?_
  rintro e w3 ⟨rfl, hc3⟩
  have hb3 : Below w.heap.size w w3 := bchain (by repeat' (first | with_reducible exact hb2 | with_reducible refine Below.drew ?_ | with_reducible refine below_drewN ?_ _ | with_reducible refine Below.alloc ?_ (by have := hb2.size; first | (simp; done) | (simp; omega) | omega) _ | with_reducible refine Below.setCell ?_ (by first | (simp; done) | (simp; omega) | omega) _)) hc3
  clear hc3 hb2
  go_wp2_with fail
  go_ret
  exact ⟨rfl, by repeat' (first | with_reducible exact hb3 | with_reducible refine Below.drew ?_ | with_reducible refine below_drewN ?_ _ | with_reducible refine Below.alloc ?_ (by have := hb3.size; first | (simp; done) | (simp; omega) | omega) _ | with_reducible refine Below.setCell ?_ (by first | (simp; done) | (simp; omega) | omega) _)⟩

end Go.Proofs.YthdldmkeoglflaaDoor

/- The words of a block. -/
namespace Go.Proofs.YthdldmkeoglflaaDoor
set_option maxRecDepth 100000
set_option linter.unusedSimpArgs false
set_option linter.unusedVariables false
set_option linter.unnecessarySimpa false
open Go.RowKit

def arr (bs : List Int) : Nat → List Int
  | 0 => List.replicate 64 0
  | i + 1 => (arr bs i).set (i / 4) (bits BinOp.or IntKind.u32 ((arr bs i)[i / 4]?.getD 0 * 256 % 4294967296) (bs[i]?.getD 0))
theorem arr_len (bs : List Int) : ∀ i, (arr bs i).length = 64
  | 0 => List.length_replicate ..
  | i + 1 => by rw [arr, List.length_set]; exact arr_len bs i

/-- The word at place T out of the words before. -/
def sg0 (x : Int) : Int := bits BinOp.xor IntKind.u32 (bits BinOp.xor IntKind.u32 (rotr x 7) (rotr x 18)) (x / 8)
def sg1 (x : Int) : Int := bits BinOp.xor IntKind.u32 (bits BinOp.xor IntKind.u32 (rotr x 17) (rotr x 19)) (x / 1024)
def arwNext (l : List Int) (T : Nat) : Int := (l[T - 16]?.getD 0 + l[T - 7]?.getD 0 + sg0 (l[T - 15]?.getD 0) + sg1 (l[T - 2]?.getD 0)) % 4294967296
def arw (bs : List Int) : Nat → List Int
  | 0 => arr bs 64
  | k + 1 => (arw bs k).set (16 + k) (arwNext (arw bs k) (16 + k))
theorem arw_zero (bs : List Int) : arw bs 0 = arr bs 64 := rfl
theorem arw_len (bs : List Int) : ∀ i, (arw bs i).length = 64
  | 0 => arr_len bs 64
  | i + 1 => by rw [arw, List.length_set]; exact arw_len bs i
def Rng32 (l : List Int) : Prop := ∀ x ∈ l, 0 ≤ x ∧ x < 4294967296
theorem Rng32.at {l : List Int} (h : Rng32 l) (j : Nat) : 0 ≤ l[j]?.getD 0 ∧ l[j]?.getD 0 < 4294967296 := by
  by_cases hj : j < l.length
  · rw [List.getElem?_eq_getElem hj]; exact h _ (List.getElem_mem hj)
  · rw [List.getElem?_eq_none (by omega)]; simp
theorem Rng32.set {l : List Int} (h : Rng32 l) (j : Nat) {x : Int} (hx : 0 ≤ x ∧ x < 4294967296) : Rng32 (l.set j x) := fun y hy => by
  rcases List.mem_or_eq_of_mem_set hy with h1 | h1
  · exact h y h1
  · subst h1; exact hx
theorem arr_rng32 (bs : List Int) : ∀ i, Rng32 (arr bs i)
  | 0 => fun x hx => by have := (List.mem_replicate.1 hx).2; subst this; omega
  | i + 1 => (arr_rng32 bs i).set _ (or_rng32 _ _)
theorem arwNext_rng (l : List Int) (T : Nat) : 0 ≤ arwNext l T ∧ arwNext l T < 4294967296 := by unfold arwNext; omega
theorem arw_rng32 (bs : List Int) : ∀ i, Rng32 (arw bs i)
  | 0 => arr_rng32 bs 64
  | i + 1 => (arw_rng32 bs i).set _ (arwNext_rng _ _)
theorem arw_rng (bs : List Int) (k j : Nat) : 0 ≤ (arw bs k)[j]?.getD 0 ∧ (arw bs k)[j]?.getD 0 < 4294967296 := (arw_rng32 bs k).at j

set_option maxRecDepth 100000 in
set_option maxHeartbeats 4000000 in
theorem sched_any (bs : List Int) (n c : Nat) (a : Option Addr) (w : World) (h64 : 64 ≤ n) (hn : n ≤ bs.length) (hc : CellsAt w a (bs.map (Value.int .u8))) (hnc : n ≤ c) (hcm : c ≤ maxLen) (hb : ∀ x ∈ bs, 0 ≤ x ∧ x < 256) :
    Calls Tryd.prog 139 #[.slice a n c] w fun e w' =>
      e = .returned (.agg ((arw bs 48).map (Value.int .u32)).toArray) ∧ Below w.heap.size w w' := by
  unfold maxLen at hcm
  obtain ⟨b, o, rfl, hcell⟩ := hc.int (by omega)
  have hH := hid hcell
  clear hcell
  have i1 : (64 : Int) ≤ (c : Int) := by omega
  go_enter Tryd.func139, Tryd.ntmps139
  have hb0 := Below.refl w.heap.size w
  go_wp2_with fail
  refine wp_gen fun w1 hc1 => ?_
  have hB : Blk w1 w.heap.size 181 ((arr bs 0).map (Value.int .u32)) := Blk.later (Blk.newA _ _ _ _ _ rfl (by rfl)) hc1
  have hb1 : Below w.heap.size w w1 := bchain (by repeat' (first | with_reducible exact hb0 | with_reducible refine Below.drew ?_ | with_reducible refine below_drewN ?_ _ | with_reducible refine Below.alloc ?_ (by have := hb0.size; first | (simp; done) | (simp; omega) | omega) _ | with_reducible refine Below.setCell ?_ (by first | (simp; done) | (simp; omega) | omega) _)) hc1
  clear hc1
  go_loopw [13] (fun q wr => ∃ i : Nat, i ≤ 64 ∧ q = .int .i64 i ∧ Below w.heap.size w wr ∧ Blk wr w.heap.size 181 ((arr bs i).map (Value.int .u32))) (fun q _ => 64 - (intOf q).toNat)
  case atStart => exact ⟨0, by omega, rfl, hb1, hB⟩
  case round =>
    obtain ⟨i, hi, rfl, hbw, hB⟩ := hrel
    by_cases hlt : i < 64
    · have hlt' : (i : Int) < 64 := by omega
      obtain ⟨q, hq⟩ : ∃ q : Nat, q = i / 4 := ⟨_, rfl⟩
      have hq16 : q < 16 := by omega
      have hqi : (i : Int) / 4 = (q : Int) := by omega
      have hq0 : (q : Int) < 64 := by omega
      have c1 := cell_later hbw (hH.out i (by omega))
      have c2 := hB.cellI (j := q) (by rw [arr_len]; omega)
      have c3 := hB.free q
      have x1 := hb (bs[i]?.getD 0) (by rw [List.getElem?_eq_getElem (by omega)]; exact List.getElem_mem _)
      obtain ⟨x, hx⟩ : ∃ x, x = bs[i]?.getD 0 := ⟨_, rfl⟩
      obtain ⟨y, hy⟩ : ∃ y, y = (arr bs i)[q]?.getD 0 := ⟨_, rfl⟩
      rw [← hx] at c1 x1
      rw [← hy] at c2
      obtain ⟨x2, x3⟩ := x1
      have H_hx := hid hx
      have H_hy := hid hy
      have H_hq := hid hq
      clear hx hy hq
      go_wp2_with fail
      go_roundw
      case rel => exact ⟨i + 1, by omega, by go_num, by repeat' (first | with_reducible exact hbw | with_reducible refine Below.setCell ?_ (by first | (simp; done) | (simp; omega) | omega) _), by have := hB.setI q (bits BinOp.or IntKind.u32 (y * 256 % 4294967296) x); rw [H_hx.out, H_hy.out, H_hq.out] at this; rw [H_hx.out, H_hy.out, H_hq.out]; exact this⟩
      case measure => simp [intOf]; omega
    · have hge : (64 : Int) ≤ (i : Int) := by omega
      have hi64 : i = 64 := by omega
      rw [hi64] at hB
      have H_hi64 := hid hi64
      clear hi64
      go_wp2_with fail
      obtain ⟨w2, hw2⟩ : ∃ w2, w2 = wr := ⟨wr, rfl⟩
      subst hw2
      go_loopw [5] (fun q wr => ∃ k : Nat, k ≤ 48 ∧ q = .int .i64 ((16 + k : Nat) : Int) ∧ Below w.heap.size w wr ∧ Blk wr w.heap.size 181 ((arw bs k).map (Value.int .u32))) (fun q _ => 64 - (intOf q).toNat)
      case atStart => exact ⟨0, by omega, rfl, hbw, by rw [arw_zero]; exact hB⟩
      case round =>
        obtain ⟨k, hk, rfl, hbx, hB⟩ := hrel
        by_cases hlt : k < 48
        · have hl := arw_len bs k
          obtain ⟨T, hT⟩ : ∃ T : Nat, T = 16 + k := ⟨_, rfl⟩
          have hT16 : (16 : Int) ≤ (T : Int) := by omega
          have hT64 : (T : Int) < 64 := by omega
          obtain ⟨A, hA⟩ : ∃ A : Nat, A = T - 15 := ⟨_, rfl⟩
          obtain ⟨B, hB'⟩ : ∃ B : Nat, B = T - 2 := ⟨_, rfl⟩
          obtain ⟨C, hC⟩ : ∃ C : Nat, C = T - 16 := ⟨_, rfl⟩
          obtain ⟨D, hD⟩ : ∃ D : Nat, D = T - 7 := ⟨_, rfl⟩
          have eA : (T : Int) - 15 = (A : Int) := by omega
          have eB : (T : Int) - 2 = (B : Int) := by omega
          have eC : (T : Int) - 16 = (C : Int) := by omega
          have eD : (T : Int) - 7 = (D : Int) := by omega
          have zA : (A : Int) < 64 := by omega
          have zB : (B : Int) < 64 := by omega
          have zC : (C : Int) < 64 := by omega
          have zD : (D : Int) < 64 := by omega
          have cA := hB.cellI (j := A) (by omega)
          have cB := hB.cellI (j := B) (by omega)
          have rA := arw_rng bs k A
          have rB := arw_rng bs k B
          generalize hxA : (arw bs k)[A]?.getD 0 = xA at *
          generalize hxB : (arw bs k)[B]?.getD 0 = xB at *
          obtain ⟨rA0, rA1⟩ := rA
          obtain ⟨rB0, rB1⟩ := rB
          have hC64 : C < 64 := by omega
          have hD64 : D < 64 := by omega
          have hT64' : T < 64 := by omega
          rw [← hT]
          have H_hl := hid hl
          have H_hA := hid hA
          have H_hB' := hid hB'
          have H_hC := hid hC
          have H_hD := hid hD
          have H_hT := hid hT
          have H_hxA := hid hxA
          have H_hxB := hid hxB
          clear hl hA hB' hC hD hT hxA hxB
          go_wp2_with fail
          go_quiet (fail)
          clear cA cB
          go_wp2_with fail
          with_reducible refine (rotl_any xA (-7) 7 _ (by omega) (by omega) (by omega) rA0 rA1).mono ?_
          rintro e w3 ⟨rfl, hc3⟩
          have hb3 : Below w.heap.size w w3 := bchain (by repeat' (first | with_reducible exact hbx | with_reducible refine Below.drew ?_ | with_reducible refine below_drewN ?_ _ | with_reducible refine Below.alloc ?_ (by have := hbx.size; first | (simp; done) | (simp; omega) | omega) _ | with_reducible refine Below.setCell ?_ (by first | (simp; done) | (simp; omega) | omega) _)) hc3
          have hst3 : Below wr.heap.size wr w3 := bchain (by repeat' (first | with_reducible exact Below.refl _ _ | with_reducible refine Below.drew ?_ | with_reducible refine below_drewN ?_ _ | with_reducible refine Below.alloc ?_ (by first | (simp; done) | (simp; omega) | omega) _ | with_reducible refine Below.setCell ?_ (by first | (simp; done) | (simp; omega) | omega) _)) hc3
          replace hB := hB.later hst3
          clear hst3
          clear hc3 hbx
          go_wp2_with fail
          with_reducible refine (rotl_any xA (-18) 18 _ (by omega) (by omega) (by omega) rA0 rA1).mono ?_
          rintro e w4 ⟨rfl, hc4⟩
          have hb4 : Below w.heap.size w w4 := bchain (by repeat' (first | with_reducible exact hb3 | with_reducible refine Below.drew ?_ | with_reducible refine below_drewN ?_ _ | with_reducible refine Below.alloc ?_ (by have := hb3.size; first | (simp; done) | (simp; omega) | omega) _ | with_reducible refine Below.setCell ?_ (by first | (simp; done) | (simp; omega) | omega) _)) hc4
          have hst4 : Below w3.heap.size w3 w4 := bchain (by repeat' (first | with_reducible exact Below.refl _ _ | with_reducible refine Below.drew ?_ | with_reducible refine below_drewN ?_ _ | with_reducible refine Below.alloc ?_ (by first | (simp; done) | (simp; omega) | omega) _ | with_reducible refine Below.setCell ?_ (by first | (simp; done) | (simp; omega) | omega) _)) hc4
          replace hB := hB.later hst4
          clear hst4
          clear hc4 hb3
          go_wp2_with fail
          with_reducible refine (rotl_any xB (-17) 17 _ (by omega) (by omega) (by omega) rB0 rB1).mono ?_
          rintro e w5 ⟨rfl, hc5⟩
          have hb5 : Below w.heap.size w w5 := bchain (by repeat' (first | with_reducible exact hb4 | with_reducible refine Below.drew ?_ | with_reducible refine below_drewN ?_ _ | with_reducible refine Below.alloc ?_ (by have := hb4.size; first | (simp; done) | (simp; omega) | omega) _ | with_reducible refine Below.setCell ?_ (by first | (simp; done) | (simp; omega) | omega) _)) hc5
          have hst5 : Below w4.heap.size w4 w5 := bchain (by repeat' (first | with_reducible exact Below.refl _ _ | with_reducible refine Below.drew ?_ | with_reducible refine below_drewN ?_ _ | with_reducible refine Below.alloc ?_ (by first | (simp; done) | (simp; omega) | omega) _ | with_reducible refine Below.setCell ?_ (by first | (simp; done) | (simp; omega) | omega) _)) hc5
          replace hB := hB.later hst5
          clear hst5
          clear hc5 hb4
          go_wp2_with fail
          with_reducible refine (rotl_any xB (-19) 19 _ (by omega) (by omega) (by omega) rB0 rB1).mono ?_
          rintro e w6 ⟨rfl, hc6⟩
          have hb6 : Below w.heap.size w w6 := bchain (by repeat' (first | with_reducible exact hb5 | with_reducible refine Below.drew ?_ | with_reducible refine below_drewN ?_ _ | with_reducible refine Below.alloc ?_ (by have := hb5.size; first | (simp; done) | (simp; omega) | omega) _ | with_reducible refine Below.setCell ?_ (by first | (simp; done) | (simp; omega) | omega) _)) hc6
          have hst6 : Below w5.heap.size w5 w6 := bchain (by repeat' (first | with_reducible exact Below.refl _ _ | with_reducible refine Below.drew ?_ | with_reducible refine below_drewN ?_ _ | with_reducible refine Below.alloc ?_ (by first | (simp; done) | (simp; omega) | omega) _ | with_reducible refine Below.setCell ?_ (by first | (simp; done) | (simp; omega) | omega) _)) hc6
          replace hB := hB.later hst6
          clear hst6
          clear hc6 hb5
          have cC := hB.cellI (j := C) (by have := H_hl.out; omega)
          have cD := hB.cellI (j := D) (by have := H_hl.out; omega)
          have cT := hB.cellI (j := T) (by have := H_hl.out; omega)
          have fT := hB.free T
          have hset := hB.setI T (arwNext (arw bs k) (16 + k))
          generalize hxC : (arw bs k)[C]?.getD 0 = xC at *
          generalize hxD : (arw bs k)[D]?.getD 0 = xD at *
          generalize hxT : (arw bs k)[T]?.getD 0 = xT at *
          have H_hset := hid hset
          have H_hxC := hid hxC
          have H_hxD := hid hxD
          have H_hxT := hid hxT
          clear hset hxC hxD hxT
          go_wp2_with fail
          go_region
          all_goals go_wp2_with fail
          go_roundw
          case rel =>
            refine ⟨k + 1, by omega, congrArg (Value.int .i64) (by have := H_hT.out; omega), (by repeat' (first | with_reducible exact hb6 | with_reducible refine Below.drew ?_ | with_reducible refine below_drewN ?_ _ | with_reducible refine Below.alloc ?_ (by have := hb6.size; first | (simp; done) | (simp; omega) | omega) _ | with_reducible refine Below.setCell ?_ (by first | (simp; done) | (simp; omega) | omega) _)), ?_⟩
            have hs := H_hset.out
            unfold arwNext at hs
            rw [← H_hT.out, ← H_hC.out, ← H_hD.out, ← H_hA.out, ← H_hB'.out, H_hxC.out, H_hxD.out, H_hxA.out, H_hxB.out] at hs
            have hg : arw bs (k + 1) = (arw bs k).set T (arwNext (arw bs k) T) := by rw [H_hT.out]; rfl
            rw [hg]
            unfold arwNext
            rw [← H_hC.out, ← H_hD.out, ← H_hA.out, ← H_hB'.out, H_hxC.out, H_hxD.out, H_hxA.out, H_hxB.out]
            unfold sg0 sg1 at hs ⊢
            exact hs.drew
          case measure => simp [intOf]; omega
        · have hge2 : (64 : Int) ≤ ((16 + k : Nat) : Int) := by omega
          have hk48 : k = 48 := by omega
          rw [hk48] at hB
          obtain ⟨T, hT⟩ : ∃ T : Nat, T = 16 + k := ⟨_, rfl⟩
          rw [← hT]
          rw [← hT] at hge2
          obtain ⟨vs, hvs⟩ : ∃ vs, vs = (arw bs 48).map (Value.int .u32) := ⟨_, rfl⟩
          have hvl : 64 = vs.length := by rw [hvs, List.length_map, arw_len]
          have ho : ∀ v ∈ vs, v.oneCell' = true := by rw [hvs]; exact oneCell_ints _ _
          rw [← hvs] at hB
          have hi : (Tryd.prog.info? 181).map (·.size) = some vs.length := by rw [← hvl]; kernel_rfl
          have H_hvl := hid hvl
          have H_hk48 := hid hk48
          have H_hT := hid hT
          have H_hvs := hid hvs
          have H_ho := hid ho
          have H_hi := hid hi
          clear hvl hk48 hT hvs ho hi
          go_wp2_with (first | (refine wpList_load_blk rfl 181 _ rfl w.heap.size (by rfl) 181 vs _ hB Tryd.underlying181 rfl H_hi.out ?_) | (refine wpList_store_blk rfl 181 _ _ rfl w.heap.size (by rfl) 181 vs vs (by rfl) hB rfl H_hi.out H_ho.out ?_; intro w7 hB7 he7))
          have hb7 : Below w.heap.size w w7 := he7 ▸ below_setCells (Nat.le_refl _) _ _ _ hbx
          exact bodyPost_ret (results_blk (by rfl) _ _ w.heap.size 181 _ _ rfl hB7 Tryd.underlying181 rfl H_hi.out) rfl ⟨by rw [H_hvs.out], hb7⟩

end Go.Proofs.YthdldmkeoglflaaDoor

/- Rounds on words, as plain data; worlds in which one block alone is written. -/
namespace Go.Proofs.YthdldmkeoglflaaDoor
set_option maxRecDepth 100000
open Go.RowKit

/-- The constants of the rounds. -/
def kcs : List Int := [1116352408, 1899447441, 3049323471, 3921009573, 961987163, 1508970993, 2453635748, 2870763221, 3624381080, 310598401, 607225278, 1426881987, 1925078388, 2162078206, 2614888103, 3248222580, 3835390401, 4022224774, 264347078, 604807628, 770255983, 1249150122, 1555081692, 1996064986, 2554220882, 2821834349, 2952996808, 3210313671, 3336571891, 3584528711, 113926993, 338241895, 666307205, 773529912, 1294757372, 1396182291, 1695183700, 1986661051, 2177026350, 2456956037, 2730485921, 2820302411, 3259730800, 3345764771, 3516065817, 3600352804, 4094571909, 275423344, 430227734, 506948616, 659060556, 883997877, 958139571, 1322822218, 1537002063, 1747873779, 1955562222, 2024104815, 2227730452, 2361852424, 2428436474, 2756734187, 3204031479, 3329325298]
theorem kcs_len : kcs.length = 64 := rfl
structure V8 where
  a : Int
  b : Int
  c : Int
  d : Int
  e : Int
  f : Int
  g : Int
  z : Int
def V8.list (v : V8) : List Int := [v.a, v.b, v.c, v.d, v.e, v.f, v.g, v.z]
def V8.of (l : List Int) : V8 := ⟨l[0]?.getD 0, l[1]?.getD 0, l[2]?.getD 0, l[3]?.getD 0, l[4]?.getD 0, l[5]?.getD 0, l[6]?.getD 0, l[7]?.getD 0⟩
def V8.ok (v : V8) : Prop := (0 ≤ v.a ∧ v.a < 4294967296) ∧ (0 ≤ v.b ∧ v.b < 4294967296) ∧ (0 ≤ v.c ∧ v.c < 4294967296) ∧ (0 ≤ v.d ∧ v.d < 4294967296) ∧ (0 ≤ v.e ∧ v.e < 4294967296) ∧ (0 ≤ v.f ∧ v.f < 4294967296) ∧ (0 ≤ v.g ∧ v.g < 4294967296) ∧ (0 ≤ v.z ∧ v.z < 4294967296)
def chF (e f g : Int) : Int := bits BinOp.xor IntKind.u32 (bits BinOp.and IntKind.u32 e f) (bits BinOp.and IntKind.u32 (bits BinOp.xor IntKind.u32 4294967295 e) g)
def maF (a b c : Int) : Int := bits BinOp.xor IntKind.u32 (bits BinOp.xor IntKind.u32 (bits BinOp.and IntKind.u32 a b) (bits BinOp.and IntKind.u32 a c)) (bits BinOp.and IntKind.u32 b c)
def V8.p (v : V8) (k w : Int) : Int := (v.z + mixF v.e 6 11 25 + chF v.e v.f v.g + k + w) % 4294967296
theorem V8.p_eq (a b c d e f g z k x : Int) : ((z + mixF e 6 11 25 + bits BinOp.xor IntKind.u32 (bits BinOp.and IntKind.u32 e f) (bits BinOp.and IntKind.u32 (bits BinOp.xor IntKind.u32 4294967295 e) g) + k) % 4294967296 + x) % 4294967296 = V8.p ⟨a, b, c, d, e, f, g, z⟩ k x := by
  unfold V8.p chF
  simp only
  omega
def V8.q (v : V8) : Int := (mixF v.a 2 13 22 + maF v.a v.b v.c) % 4294967296
def V8.rnd (v : V8) (k w : Int) : V8 := ⟨(v.p k w + v.q) % 4294967296, v.a, v.b, v.c, (v.d + v.p k w) % 4294967296, v.e, v.f, v.g⟩
def vAt (v : V8) (ws : List Int) : Nat → V8
  | 0 => v
  | t + 1 => (vAt v ws t).rnd (kcs[t]?.getD 0) (ws[t]?.getD 0)
theorem V8.rnd_ok {v : V8} (h : v.ok) (k w : Int) : (v.rnd k w).ok := by
  obtain ⟨h1, h2, h3, h4, h5, h6, h7, h8⟩ := h
  refine ⟨?_, h1, h2, h3, ?_, h5, h6, h7⟩
  · show 0 ≤ (v.p k w + v.q) % 4294967296 ∧ (v.p k w + v.q) % 4294967296 < 4294967296
    omega
  · show 0 ≤ (v.d + v.p k w) % 4294967296 ∧ (v.d + v.p k w) % 4294967296 < 4294967296
    omega
theorem vAt_ok {v : V8} (h : v.ok) (ws : List Int) : ∀ t, (vAt v ws t).ok
  | 0 => h
  | t + 1 => V8.rnd_ok (vAt_ok h ws t) _ _
theorem V8.of_ok {l : List Int} (h : Rng32 l) : (V8.of l).ok := ⟨h.at 0, h.at 1, h.at 2, h.at 3, h.at 4, h.at 5, h.at 6, h.at 7⟩
theorem V8.list_len (v : V8) : v.list.length = 8 := rfl
theorem V8.ok.list {v : V8} (h : v.ok) : Rng32 v.list := by
  obtain ⟨h1, h2, h3, h4, h5, h6, h7, h8⟩ := h
  intro x hx
  simp only [V8.list, List.mem_cons, List.not_mem_nil, or_false] at hx
  rcases hx with rfl | rfl | rfl | rfl | rfl | rfl | rfl | rfl <;> assumption
/-- The first i words with those of vs added. -/
def addUp (hs vs : List Int) : Nat → List Int
  | 0 => hs
  | i + 1 => (addUp hs vs i).set i (((addUp hs vs i)[i]?.getD 0 + vs[i]?.getD 0) % 4294967296)
theorem addUp_len (hs vs : List Int) : ∀ i, (addUp hs vs i).length = hs.length
  | 0 => rfl
  | i + 1 => by rw [addUp, List.length_set]; exact addUp_len hs vs i
theorem addUp_rng {hs vs : List Int} (h : Rng32 hs) : ∀ i, Rng32 (addUp hs vs i)
  | 0 => h
  | i + 1 => (addUp_rng h i).set _ (by omega)
/-- The words after a block was ground. -/
def ground (hs bs : List Int) : List Int := addUp hs (vAt (V8.of hs) (arw bs 48) 64).list 8
theorem ground_len (hs bs : List Int) : (ground hs bs).length = hs.length := addUp_len _ _ _
theorem ground_rng {hs : List Int} (h : Rng32 hs) (bs : List Int) : Rng32 (ground hs bs) := addUp_rng h _

section
variable {w w1 w2 : World} {H : Nat}
theorem gb_of_below (h : Below w.heap.size w w1) (H : Nat) : w.grownBy w1 (some H) := ⟨h.os, h.tape, h.output, h.size, fun k hk _ => h.block k hk⟩
theorem gb_trans (h : w.grownBy w1 (some H)) (k : w1.grownBy w2 (some H)) : w.grownBy w2 (some H) :=
  ⟨k.os.trans h.os, k.tape.trans h.tape, k.output.trans h.output, Nat.le_trans h.size k.size, fun j hj hne => (k.block j (Nat.lt_of_lt_of_le hj h.size) hne).trans (h.block j hj hne)⟩
theorem gb_drew (h : w.grownBy w1 (some H)) : w.grownBy w1.drew (some H) := ⟨h.os, h.tape, h.output, h.size, h.block⟩
theorem gb_setCell (h : w.grownBy w1 (some H)) (i : Nat) (v : Value) : w.grownBy (w1.setCell ⟨H, i, none⟩ v) (some H) := by
  have e : (w1.setCell ⟨H, i, none⟩ v).heap.size = w1.heap.size := by simp
  exact ⟨h.os, h.tape, h.output, by rw [e]; exact h.size, fun j hj hne => (Below.heap_setCell _ _ _ _ (fun hh => hne (congrArg some hh))).trans (h.block j hj hne)⟩
theorem gb_alloc (h : w.grownBy w1 (some H)) (o : Obj) : w.grownBy (w1.alloc o) (some H) := gb_trans h (World.grownBy_alloc _ _ _)
theorem gb_blk (h : w.grownBy w1 (some H)) {B : Nat} {t : TypeId} {cs : List Value} (hb : Blk w B t cs) (hne : B ≠ H) : Blk w1 B t cs := (h.block B hb.lt (fun e => hne (Option.some.inj e))).trans hb
theorem gb_cells (h : w.grownBy w1 (some H)) {a : Option Addr} {cs : List Value} (hc : CellsAt w a cs) (hne : ∀ ad, a = some ad → ad.block ≠ H) : CellsAt w1 a cs := by
  rcases hc with hc | ⟨b, o, rfl, hc⟩
  · exact .inl hc
  · refine .inr ⟨b, o, rfl, fun j u hj => ?_⟩
    exact h.cell (hc j u hj) (fun e => hne _ rfl (Option.some.inj e))
theorem gb_below {B : Nat} {a : World} (h : w.grownBy w1 (some H)) (hb : Below B a w) (hB : B ≤ w.heap.size) (hH : B ≤ H) : Below B a w1 := hb.grown h hB (fun k hk => by cases hk; exact hH)
end

end Go.Proofs.YthdldmkeoglflaaDoor

/- A block is ground into words. -/
namespace Go.Proofs.YthdldmkeoglflaaDoor
set_option maxRecDepth 100000
set_option linter.unusedSimpArgs false
set_option linter.unusedVariables false
set_option linter.unnecessarySimpa false
open Go.RowKit

theorem info64 : (Tryd.prog.info? 181).map (·.size) = some 64 := by kernel_rfl
theorem idx8 (a b c d e f g h : Int) (i : Nat) (hi : i < 8) (w : World) :
    (Instr.index 157 (.agg #[.int .u32 a, .int .u32 b, .int .u32 c, .int .u32 d, .int .u32 e, .int .u32 f, .int .u32 g, .int .u32 h]) (.int .i64 i)).run Tryd.prog w = .ok (.int .u32 ([a, b, c, d, e, f, g, h][i]?.getD 0)) w := by
  rcases (by omega : i = 0 ∨ i = 1 ∨ i = 2 ∨ i = 3 ∨ i = 4 ∨ i = 5 ∨ i = 6 ∨ i = 7) with rfl | rfl | rfl | rfl | rfl | rfl | rfl | rfl <;> kernel_rfl

set_option maxRecDepth 100000 in
set_option maxHeartbeats 4000000 in
theorem grind_any (hs : List Int) (tl : List Value) (H : Nat) (T : TypeId) (bs : List Int) (n c : Nat) (a : Option Addr) (w : World) (hl : hs.length = 8) (hr : Rng32 hs) (hH : Blk w H T (hs.map (Value.int .u32) ++ tl)) (hH0 : 0 ≠ H)
    (hK : CellsAt w (some ⟨6, 0, none⟩) (kcs.map (Value.int .u32))) (h64 : 64 ≤ n) (hn : n ≤ bs.length) (hc : CellsAt w a (bs.map (Value.int .u8))) (hnc : n ≤ c) (hcm : c ≤ maxLen) (hb : ∀ x ∈ bs, 0 ≤ x ∧ x < 256) :
    Calls Tryd.prog 131 #[.pointer (some ⟨H, 0, none⟩), .slice a n c] w fun e w' =>
      e = .returned (.tuple #[]) ∧ w.grownBy w' (some H) ∧ Blk w' H T ((ground hs bs).map (Value.int .u32) ++ tl) := by
  have hHl := hH.lt
  have hkz : 6 < w.heap.size := by
    obtain ⟨kb, ko, ke, hkc⟩ := hK.int (by rw [kcs_len]; omega)
    cases ke
    exact World.block_lt_of_cell? _ _ (hkc 0 (by rw [kcs_len]; omega))
  obtain ⟨v0, hv0⟩ : ∃ v, v = V8.of hs := ⟨_, rfl⟩
  have hv0k : v0.ok := by rw [hv0]; exact V8.of_ok hr
  have e8 : hs = v0.list := by
    rw [hv0]
    match hs, hl with
    | [_, _, _, _, _, _, _, _], _ => rfl
  have HL := hid hl
  have HR := hid hr
  have HV0 := hid hv0
  have HV0k := hid hv0k
  have HE8 := hid e8
  clear hl hr hv0 hv0k e8
  go_enter Tryd.func131, Tryd.ntmps131
  have hb0 := Below.refl w.heap.size w
  go_wp2_with fail
  with_reducible refine (sched_any bs n c a _ h64 hn hc hnc hcm hb).mono ?_
  rintro e w1 ⟨rfl, hc1⟩
  have hb1 : Below w.heap.size w w1 := bchain (by repeat' (first | with_reducible exact hb0 | with_reducible refine Below.drew ?_ | with_reducible refine below_drewN ?_ _ | with_reducible refine Below.alloc ?_ (by have := hb0.size; first | (simp; done) | (simp; omega) | omega) _ | with_reducible refine Below.setCell ?_ (by first | (simp; done) | (simp; omega) | omega) _)) hc1
  have hst1 : Below w.heap.size w w1 := bchain (by repeat' (first | with_reducible exact Below.refl _ _ | with_reducible refine Below.drew ?_ | with_reducible refine below_drewN ?_ _ | with_reducible refine Below.alloc ?_ (by first | (simp; done) | (simp; omega) | omega) _ | with_reducible refine Below.setCell ?_ (by first | (simp; done) | (simp; omega) | omega) _)) hc1
  replace hH := hH.later hst1
  replace hK := hK.later hst1
  clear hst1
  clear hc1 hb0
  have kG0 : w.grownBy w1 (some H) := gb_of_below hb1 H
  obtain ⟨vs, hvs⟩ : ∃ vs, vs = (arw bs 48).map (Value.int .u32) := ⟨_, rfl⟩
  have hvl : 64 = vs.length := by rw [hvs, List.length_map, arw_len]
  have ho : ∀ v ∈ vs, v.oneCell' = true := by rw [hvs]; exact oneCell_ints _ _
  have hi : (Tryd.prog.info? 181).map (·.size) = some vs.length := by rw [← hvl]; exact info64
  have hN := Blk.new w1 w1.heap.size (List.replicate 64 (Value.int .u32 0)) 181 rfl
  have hlr : vs.length = (List.replicate 64 (Value.int .u32 0)).length := by rw [← hvl]; rfl
  have zH1 := hH.lt
  rw [← hvs]
  have H_hvl := hid hvl
  have H_hvs := hid hvs
  have H_ho := hid ho
  have H_hi := hid hi
  have H_hlr := hid hlr
  clear hvl hvs ho hi hlr
  go_wp2_with (refine wpList_store_blk rfl 181 _ _ rfl w1.heap.size (by rfl) 181 _ vs (by rfl) hN H_hlr.out H_hi.out H_ho.out ?_; intro w2 hB2 he2)
  have hb2 : Below w.heap.size w w2 := he2 ▸ below_setCells hb1.size _ _ _ (hb1.alloc hb1.size _)
  have hsz2 : w2.heap.size = w1.heap.size + 1 := by rw [he2, size_setCells]; simp
  have hH2 : Blk w2 H T (hs.map (Value.int .u32) ++ tl) := he2 ▸ Blk.setCellsFar (by omega) _ _ _ (hH.alloc _)
  have hK2 : CellsAt w2 (some ⟨6, 0, none⟩) (kcs.map (Value.int .u32)) := he2 ▸ CellsAt.setCellsFar (by have := hb1.size; intro ad e; cases e; simp; omega) _ _ _ (hK.alloc _)
  clear hN he2
  have zW2 : w1.heap.size < w2.heap.size := by omega
  clear hsz2
  have zHW : H ≠ w1.heap.size := by omega
  obtain ⟨WB, hWB⟩ : ∃ WB, WB = w1.heap.size := ⟨_, rfl⟩
  rw [← hWB] at hB2 zW2 zHW
  rw [← hWB]
  clear hH hK hWB
  have hcs : ∀ j, j < 8 → w2.cell? ⟨H, j, none⟩ = some (.int .u32 (v0.list[j]?.getD 0)) := fun j hj => hH2.cell (by
    rw [HE8.out, List.getElem?_append_left (by simp [V8.list]; omega)]
    simp [List.getElem?_map, List.getElem?_eq_getElem (show j < v0.list.length from hj)])
  have d0 : w2.cell? ⟨H, 0, none⟩ = some (.int .u32 v0.a) := hcs 0 (by omega)
  have d1 : w2.cell? ⟨H, 1, none⟩ = some (.int .u32 v0.b) := hcs 1 (by omega)
  have d2 : w2.cell? ⟨H, 2, none⟩ = some (.int .u32 v0.c) := hcs 2 (by omega)
  have d3 : w2.cell? ⟨H, 3, none⟩ = some (.int .u32 v0.d) := hcs 3 (by omega)
  have d4 : w2.cell? ⟨H, 4, none⟩ = some (.int .u32 v0.e) := hcs 4 (by omega)
  have d5 : w2.cell? ⟨H, 5, none⟩ = some (.int .u32 v0.f) := hcs 5 (by omega)
  have d6 : w2.cell? ⟨H, 6, none⟩ = some (.int .u32 v0.g) := hcs 6 (by omega)
  have d7 : w2.cell? ⟨H, 7, none⟩ = some (.int .u32 v0.z) := hcs 7 (by omega)
  clear hcs
  go_wp2_with fail
  go_quiet (fail)
  clear d0 d1 d2 d3 d4 d5 d6 d7
  go_wp2_with fail
  refine wp_gen fun w3 hc3 => ?_
  have hc23 : Below w2.heap.size w2 w3 := bchain (below_drewN (Below.refl _ _) _) hc3
  clear hc3
  go_loopw [5, 6, 7, 8, 9, 10, 11, 12, 52] (fun s5 s6 s7 s8 s9 s10 s11 s12 q wr => ∃ (t : Nat) (v : V8), t ≤ 64 ∧ s5 = .int .u32 v.a ∧ s6 = .int .u32 v.b ∧ s7 = .int .u32 v.c ∧ s8 = .int .u32 v.d ∧ s9 = .int .u32 v.e ∧ s10 = .int .u32 v.f ∧ s11 = .int .u32 v.g ∧ s12 = .int .u32 v.z ∧ q = .int .i64 t ∧ Hid (v = vAt v0 (arw bs 48) t) ∧ Below w2.heap.size w2 wr) (fun _ _ _ _ _ _ _ _ q _ => 64 - (intOf q).toNat)
  case atStart => exact ⟨0, v0, by omega, rfl, rfl, rfl, rfl, rfl, rfl, rfl, rfl, rfl, hid rfl, hc23⟩
  case round =>
    obtain ⟨t, v, ht, rfl, rfl, rfl, rfl, rfl, rfl, rfl, rfl, rfl, HV, hc4⟩ := hrel
    obtain ⟨w4, hw4⟩ : ∃ w4, w4 = wr := ⟨wr, rfl⟩
    subst hw4
    have hok : v.ok := HV.out ▸ vAt_ok HV0k.out _ t
    obtain ⟨h1, h2, h3, h4, h5, h6, h7, h8⟩ := hok
    obtain ⟨a1, b, c1, d, e, f, g, zz⟩ := v
    simp only at h1 h2 h3 h4 h5 h6 h7 h8
    have H234678 := hid (And.intro h2 (And.intro h3 (And.intro h4 (And.intro h6 (And.intro h7 h8)))))
    clear h2 h3 h4 h6 h7 h8
    dsimp only
    by_cases hlt : t < 64
    · have hlt' : (t : Int) < 64 := by omega
      have hlen := hid (arw_len bs 48)
      have hBt := hB2.later hc4
      rw [H_hvs.out] at hBt
      have cW := hBt.cellI (j := t) (by rw [arw_len]; omega)
      obtain ⟨kb, ko, ke, hkc⟩ := (hK2.later hc4).int (by rw [kcs_len]; omega)
      cases ke
      have cK := hkc t (by rw [kcs_len]; omega)
      rw [Nat.zero_add] at cK
      clear hkc hBt
      obtain ⟨x, hx⟩ : ∃ x, x = (arw bs 48)[t]?.getD 0 := ⟨_, rfl⟩
      obtain ⟨k, hk⟩ : ∃ k, k = kcs[t]?.getD 0 := ⟨_, rfl⟩
      rw [← hx] at cW
      rw [← hk] at cK
      have H_hx := hid hx
      have H_hk := hid hk
      clear hx hk
      obtain ⟨h5a, h5b⟩ := h5
      obtain ⟨h1a, h1b⟩ := h1
      go_wp2_with fail
      have hsg : IntKind.u32.signed = false := rfl
      have hmx : IntKind.u32.max = 4294967295 := rfl
      have KcW := cell_on cW
      have KcK := cell_on cK
      refine wp_region_on (by kernel_rfl) (by kernel_rfl) ?_
      repeat (go_big_quiet_step ((first | (go_at_call 140; with_reducible exact calls_on (mix_any e 6 11 25 6 11 25 _ rfl rfl rfl (by omega) (by omega) (by omega) h5a h5b)))))
      refine wpQuiet_nil ?_
      intro w5 hc5
      clear KcW KcK cW cK
      have hb5 : Below w2.heap.size w2 w5 := bchain hc4 hc5
      generalize hp : ((zz + mixF e 6 11 25 + bits BinOp.xor IntKind.u32 (bits BinOp.and IntKind.u32 e f) (bits BinOp.and IntKind.u32 (bits BinOp.xor IntKind.u32 4294967295 e) g) + k) % 4294967296 + x) % 4294967296 = p
      have Hp := hid (show p = V8.p ⟨a1, b, c1, d, e, f, g, zz⟩ k x by rw [← hp]; exact V8.p_eq a1 b c1 d e f g zz k x)
      clear hp hsg hmx
      go_wp2_with fail
      with_reducible refine (mix_any a1 2 13 22 2 13 22 _ rfl rfl rfl (by omega) (by omega) (by omega) h1a h1b).mono ?_
      rintro e1 w6 ⟨rfl, hc6⟩
      have hb6 : Below w2.heap.size w2 w6 := bchain (by repeat' (first | with_reducible exact hb5 | with_reducible refine Below.drew ?_)) hc6
      go_upto_region 7 with fail
      generalize hq : (mixF a1 2 13 22 + bits BinOp.xor IntKind.u32 (bits BinOp.xor IntKind.u32 (bits BinOp.and IntKind.u32 a1 b) (bits BinOp.and IntKind.u32 a1 c1)) (bits BinOp.and IntKind.u32 b c1)) % 4294967296 = q
      have Hq := hid (show q = V8.q ⟨a1, b, c1, d, e, f, g, zz⟩ by rw [← hq]; rfl)
      clear hq
      go_wp2_with fail
      go_roundw
      case rel =>
        have e1 : vAt v0 (arw bs 48) (t + 1) = V8.rnd ⟨a1, b, c1, d, e, f, g, zz⟩ k x := by rw [H_hx.out, H_hk.out, HV.out]; rfl
        have e2 : V8.rnd ⟨a1, b, c1, d, e, f, g, zz⟩ k x = ⟨(p + q) % 4294967296, a1, b, c1, (d + p) % 4294967296, e, f, g⟩ := by rw [Hp.out, Hq.out]; rfl
        refine ⟨t + 1, ⟨(p + q) % 4294967296, a1, b, c1, (d + p) % 4294967296, e, f, g⟩, by omega, rfl, rfl, rfl, rfl, rfl, rfl, rfl, rfl, by go_num, hid (by rw [e1, e2]), hb6⟩
      case measure => simp [intOf]; omega
    · have ht64 : t = 64 := by omega
      have hge : (64 : Int) ≤ (t : Int) := by omega
      obtain ⟨tv, htv⟩ : ∃ tv, tv = V8.mk a1 b c1 d e f g zz := ⟨_, rfl⟩
      rw [ht64, ← htv] at HV
      have HT := hid htv
      have HT64 := hid ht64
      clear htv ht64
      have hHx := hH2.later hc4
      go_wp2_with fail
      refine wp_gen fun w5 hc5 => ?_
      have hb5 : Below w2.heap.size w2 w5 := bchain hc4 hc5
      have hHy := hHx.later hc5
      clear hc5 hHx
      go_loopw [112] (fun q wr => ∃ i : Nat, i ≤ 8 ∧ q = .int .i64 i ∧ w5.grownBy wr (some H) ∧ Blk wr H T ((addUp hs tv.list i).map (Value.int .u32) ++ tl)) (fun q _ => 8 - (intOf q).toNat)
      case atStart => exact ⟨0, by omega, rfl, World.grownBy.refl _ _, hHy⟩
      case round =>
        clear hHy
        obtain ⟨i, hi8, rfl, hg, hHz⟩ := hrel
        by_cases hl8 : i < 8
        · have hl8' : (i : Int) < 8 := by omega
          have hli := hid (addUp_len hs tv.list i)
          obtain ⟨y, hy⟩ : ∃ y, y = (addUp hs tv.list i)[i]?.getD 0 := ⟨_, rfl⟩
          obtain ⟨x, hx⟩ : ∃ x, x = [a1, b, c1, d, e, f, g, zz][i]?.getD 0 := ⟨_, rfl⟩
          have cH : wr.cell? ⟨H, i, none⟩ = some (.int .u32 y) := hHz.cell (by
            rw [List.getElem?_append_left (by rw [List.length_map, hli.out, HL.out]; exact hl8), List.getElem?_map, hy, List.getElem?_eq_getElem (by rw [hli.out, HL.out]; exact hl8)]; rfl)
          have fH := hHz.free i
          have hix := idx8 a1 b c1 d e f g zz i hl8
          rw [← hx] at hix
          have H_hx := hid hx
          have H_hy := hid hy
          clear hx hy
          go_wp2_with fail
          go_region
          all_goals go_wp2_with fail
          go_roundw
          case rel =>
            refine ⟨i + 1, by omega, by go_num, ?_, ?_⟩
            · exact gb_drew (gb_setCell hg _ _)
            · have h1 := hHz.set i (.int .u32 ((y + x) % 4294967296))
              rw [List.set_append_left _ _ (by rw [List.length_map, hli.out, HL.out]; exact hl8), ← List.map_set] at h1
              have h2 : addUp hs tv.list (i + 1) = (addUp hs tv.list i).set i ((y + x) % 4294967296) := by rw [H_hx.out, H_hy.out, HT.out]; rfl
              rw [h2]
              exact h1.drew
          case measure => simp [intOf]; omega
        · have hge8 : (8 : Int) ≤ (i : Int) := by omega
          have hi8' : i = 8 := by omega
          have hgr : ground hs bs = addUp hs tv.list i := by rw [hi8', HV.out, HV0.out]; rfl
          rw [← hgr] at hHz
          have hgw := gb_trans (gb_trans (gb_of_below hb2 H) (gb_of_below hb5 H)) hg
          have H_hi8' := hid hi8'
          have H_hgr := hid hgr
          clear hi8' hgr
          go_wp2_with fail
          go_end0
          exact ⟨rfl, hgw, hHz⟩

end Go.Proofs.YthdldmkeoglflaaDoor

/- slices.Clone, Grow, Concat at []byte; append of zeros. -/
namespace Go.Proofs.YthdldmkeoglflaaDoor
set_option maxRecDepth 100000
set_option linter.unusedSimpArgs false
set_option linter.unusedVariables false
set_option linter.unnecessarySimpa false
open Go.RowKit

theorem info_u8 : (Tryd.prog.info? 5).map (fun i => (i.zero, i.size, i.bytes)) = some (some (.int .u8 0), 1, 1) := by kernel_rfl

set_option maxHeartbeats 400000 in
theorem clone8_any (a : Option Addr) (n c : Nat) (xs : List Int) (w : World) (hn : n = xs.length) (hc : CellsAt w a (xs.map (Value.int .u8))) (hb : xs.length ≤ 140737488355327) :
    Calls Tryd.prog 132 #[.slice a n c] w fun e w' =>
      ∃ a' c', e = .returned (.slice a' n c') ∧ OwnX w' w.heap.size 5 1 (.slice a' n c') n (xs.map (Value.int .u8)) ∧ Below w.heap.size w w' := by
  have hq := fun (w : World) => Lib.run_eql_slice_nil w 43 5 a n c 0 0 Tryd.underlying43
  obtain ⟨i0, hi, hz0, hz1, hz2⟩ := info_parts info_u8
  cases a with
  | none =>
    have hx : xs = [] := by
      rcases hc with h | ⟨b, o, h, _⟩
      · simpa using h
      · cases h
    subst hx
    simp only [List.length_nil] at hn
    subst hn
    go_enter Tryd.func132, Tryd.ntmps132
    have hb0 := Below.refl w.heap.size w
    go_wp2_with fail
    go_ret
    exact ⟨_, _, rfl, OwnX.nil _ _ _ _, hb0⟩
  | some ad =>
    have Hc := hid hc
    clear hc
    subst hn
    go_enter Tryd.func132, Tryd.ntmps132
    have hb0 := Below.refl w.heap.size w
    go_wp2_with (at_builtin; refine stop ?_)
    refine Stop.go ?_
    refine wpList_append_x _ rfl _ _ 43 rfl w.heap.size 5 i0 (.int .u8 0) 1 1 Tryd.underlying43 hi hz0 hz1 hz2 rfl (by decide) _ 0 [] rfl (OwnX.made _ [] _ _ 0 _ (Nat.le_refl _) (by simp [maxLen]) rfl) (some ad) xs.length c (xs.map (Value.int .u8)) rfl (by simp) (Hc.out.alloc _) (ints_oneCell _ _) (by unfold maxLen; omega) (by omega) (by simp) ?_
    intro a' c' w1 hown hg _
    rw [Nat.zero_add, List.nil_append] at hown
    go_wp2_with fail
    go_ret
    exact ⟨_, _, rfl, hown, below_grownX (hb0.alloc (Nat.le_refl _) _) hg (by simp) (fun k hk => ((OwnX.made w [] _ 0 0 1 (Nat.le_refl _) (by simp [maxLen]) rfl).lt k hk).1)⟩

theorem zeroCells_one (z : Value) (n : Nat) : Builtin.zeroCells #[z] n = (List.replicate n z).toArray := by
  apply Array.ext
  · simp [Builtin.zeroCells]
  · intro i h1 h2
    simp [Builtin.zeroCells, Nat.mod_one]
section
variable {P : Program}
/-- append of zeros onto nil, or onto a full row of the call's own; elements of one cell. -/
theorem own_zeros (w : World) (base : Nat) (t tn ty e : TypeId) (i : TypeInfo) (z : Value) (k kn : IntKind) (bytes : Nat) (ht : P.underlying t = some (.slice e)) (htn : P.underlying tn = some (.int kn)) (hi : P.info? e = some i) (hz : i.zero = some z) (hsize : i.size = 1) (hby : i.bytes = bytes) (hzc : z.cells = #[z])
    (a : Option Addr) (m n : Nat) (xs : List Value) (hown : OwnX w base e 1 (.slice a m m) m xs) (hbase : base ≤ w.heap.size) (h63 : m + n ≤ maxLen) (h48 : (m + n) * bytes ≤ 140737488355328) :
    ∃ a' c' w', (Builtin.append_ #[t, tn] ty #[.slice a m m, .int k n]).run P w = .ok (.slice a' (m + n) c') w' ∧ OwnX w' base e 1 (.slice a' (m + n) c') (m + n) (xs ++ List.replicate n z) ∧ Below base w w' := by
  have hml := h63
  unfold maxLen at hml
  have hw : IntKind.i64.wrap (n : Int) = n := by rw [IntKind.wrap_i64]; omega
  by_cases hn : n = 0
  · subst hn
    refine ⟨a, m, w, ?_, by simpa using hown, Below.refl _ _⟩
    have hw0 : IntKind.i64.wrap 0 = 0 := by rw [IntKind.wrap_i64]; rfl
    cases a <;> simp [Builtin.append_, run_underlying ht, run_underlying htn, sizeOf, typeInfo, zeroValue, hi, hz, asInt, asIntOf, hw0, Builtin.firstCells, loadCells, loadCellsFrom, storeCells, Builtin.zeroCells]
  · have hsp : 0 < i.size := by omega
    have hb1 : Below base w w.drew := Below.drew (Below.refl _ _)
    have key : ∀ (cs : List Value) (C : Nat), cs.length = m → m + n ≤ C → C ≤ maxLen → xs = cs →
        OwnX (w.drew.alloc (.cells (cs.toArray ++ Builtin.zeroCells z.cells n ++ Builtin.zeroCells z.cells (C - (m + n))) e)) base e 1 (.slice (some ⟨w.heap.size, 0, none⟩) (m + n) C) (m + n) (xs ++ List.replicate n z) := by
      intro cs C hcl hC hCm hxs
      subst hxs
      rw [hzc, zeroCells_one, zeroCells_one]
      refine ⟨by simp [hcl], .inr ⟨w.heap.size, C, _, rfl, hbase, heap_alloc_new w.drew _, hC, hCm, by simp [hcl]; omega, ?_⟩⟩
      have : (xs ++ List.replicate n z).length = (m + n) * 1 := by simp [hcl]
      rw [← this, Array.toList_append, Array.toList_append]
      exact List.take_left
    obtain ⟨C, hCe⟩ : ∃ C, C = grownCap w (m + n) m e := ⟨_, rfl⟩
    have hC1 : m + n ≤ C := hCe ▸ grownCap_ge w _ _ _
    have hC2 : C ≤ maxLen := hCe ▸ grownCap_le_maxLen w _ _ _ h63
    have hlx := hown.len
    rw [Nat.mul_one] at hlx
    rcases a with _ | ad
    · have hm0 : m = 0 := by
        rcases hown.2 with ⟨h1, h2⟩ | ⟨g, cap, cur, h1, _⟩
        · exact h2
        · cases h1
      have hx0 : xs = [] := List.eq_nil_of_length_eq_zero (by omega)
      have h1 := key [] C (by simp; omega) hC1 hC2 hx0
      refine ⟨_, C, _, ?_, h1, hb1.alloc hbase _⟩
      rw [hCe]
      subst hm0
      simp only [Nat.zero_add] at h48 ⊢
      have h2 := Lib.run_append_nil_zeros (P := P) w t tn ty e i z k kn ht htn hi hz n (by omega) hsp (by omega) (by rw [hby]; omega)
      rw [h2]
      simp
    · have hs := cellsAt_news hown.cellsAt
      refine ⟨_, C, _, ?_, key xs C hlx hC1 hC2 rfl, hb1.alloc hbase _⟩
      rw [hCe]
      exact run_append_zerosG w t tn ty e i z k kn ht htn hi hz ad m m n xs (by rw [hlx, hsize, Nat.mul_one]) hs (by omega) hsp (by omega) h63 (by rw [hby]; exact h48)
end

set_option maxRecDepth 100000 in
/-- slices.Grow(nil, n): an empty row with room. -/
theorem grow8_any (n : Nat) (w : World) (hb : n ≤ 140737488355327) :
    Calls Tryd.prog 138 #[.slice none 0 0, .int .i64 n] w fun e w' =>
      ∃ a' c', e = .returned (.slice a' 0 c') ∧ OwnX w' w.heap.size 5 1 (.slice a' 0 c') 0 [] ∧ Below w.heap.size w w' := by
  obtain ⟨i0, hi, hz0, hz1, hz2⟩ := info_parts info_u8
  by_cases h0 : n = 0
  · subst h0
    go_enter Tryd.func138, Tryd.ntmps138
    have hb0 := Below.refl w.heap.size w
    go_wp2_with fail
    go_ret
    exact ⟨_, _, rfl, OwnX.nil _ _ _ _, hb0⟩
  · have hp : (0 : Int) < (n : Int) := by omega
    obtain ⟨a', c', w1, hr, hown, hbw⟩ := own_zeros (P := Tryd.prog) w w.heap.size 43 3 43 5 i0 (.int .u8 0) .i64 .i64 1 Tryd.underlying43 Tryd.underlying3 hi hz0 hz1 hz2 rfl none 0 n [] (OwnX.nil _ _ _ _) (Nat.le_refl _) (by unfold maxLen; omega) (by omega)
    simp only [Nat.zero_add, List.nil_append] at hr hown
    have hown0 : OwnX w1 w.heap.size 5 1 (.slice a' 0 c') 0 [] := by
      refine ⟨rfl, ?_⟩
      rcases hown.2 with ⟨h1, h2⟩ | ⟨g, cap, cur, h1, h2, h3, h4, h5, h6, h7⟩
      · exact absurd h2 h0
      · cases h1
        exact .inr ⟨g, _, cur, rfl, h2, h3, Nat.zero_le _, h5, h6, by simp⟩
    obtain ⟨_, _, hv, hnc, _⟩ := hown.cells
    cases hv
    have hnc' : (n : Int) ≤ (c' : Int) := by omega
    have hnc0 : (0 : Int) ≤ (c' : Int) := by omega
    have H_h0 := hid h0
    have H_hown := hid hown
    have H_hown0 := hid hown0
    clear h0 hown hown0
    go_enter Tryd.func138, Tryd.ntmps138
    have hb0 := Below.refl w.heap.size w
    go_wp2_with (at_builtin; refine stop ?_)
    refine Stop.go ?_
    refine Lib.wpList_append_run _ rfl _ _ _ _ rfl _ _ rfl rfl _ _ hr ?_
    go_wp2_with fail
    go_ret
    exact ⟨_, _, rfl, H_hown0.out, hbw⟩

end Go.Proofs.YthdldmkeoglflaaDoor

/- slices.Concat of two slices of bytes. -/
namespace Go.Proofs.YthdldmkeoglflaaDoor
set_option maxRecDepth 100000
set_option linter.unusedSimpArgs false
set_option linter.unusedVariables false
set_option linter.unnecessarySimpa false
open Go.RowKit

set_option maxHeartbeats 2000000 in
theorem concat2_any (B : Nat) (a1 a2 : Option Addr) (n1 n2 c1 c2 : Nat) (xs ys : List Int) (w : World) (h1 : n1 = xs.length) (h2 : n2 = ys.length) (k0 : w.cell? ⟨B, 0, none⟩ = some (.slice a1 n1 c1)) (k1 : w.cell? ⟨B, 1, none⟩ = some (.slice a2 n2 c2))
    (hx : CellsAt w a1 (xs.map (Value.int .u8))) (hy : CellsAt w a2 (ys.map (Value.int .u8))) (hb : n1 + n2 ≤ 140737488355327) :
    Calls Tryd.prog 130 #[.slice (some ⟨B, 0, none⟩) 2 2] w fun e w' =>
      ∃ a' c', e = .returned (.slice a' (n1 + n2) c') ∧ OwnX w' w.heap.size 5 1 (.slice a' (n1 + n2) c') (n1 + n2) ((xs ++ ys).map (Value.int .u8)) ∧ Below w.heap.size w w' := by
  obtain ⟨i0, hi, hz0, hz1, hz2⟩ := info_parts info_u8
  have H1 := hid h1
  have H2 := hid h2
  clear h1 h2
  have zB := World.block_lt_of_cell? _ _ k0
  simp only at zB
  go_enter Tryd.func130, Tryd.ntmps130
  have hb0 := Below.refl w.heap.size w
  go_wp2_with fail
  go_loop [3, 11] (fun s q => ∃ k : Nat, k ≤ 2 ∧ q = .int .i64 k ∧ s = .int .i64 ((if k = 0 then 0 else if k = 1 then n1 else n1 + n2 : Nat) : Int)) (fun _ q => 2 - (intOf q).toNat)
  case atStart => exact ⟨0, by omega, rfl, rfl⟩
  case round =>
    obtain ⟨k, hk, rfl, rfl⟩ := hrel
    rcases (by omega : k = 0 ∨ k = 1 ∨ k = 2) with rfl | rfl | rfl
    · simp only [if_true]
      go_wp2_with fail
      go_round
      case rel => exact ⟨1, by omega, by go_num, by simp⟩
      case measure => simp [intOf]
    · simp only [if_true, if_neg (show ¬ (1 = 0) by omega)]
      go_wp2_with fail
      go_round
      case rel => exact ⟨2, by omega, by go_num, by simp⟩
      case measure => simp [intOf]
    · simp only [if_neg (show ¬ (2 = 0) by omega), if_neg (show ¬ (2 = 1) by omega)]
      obtain ⟨N, hN⟩ : ∃ N, N = n1 + n2 := ⟨_, rfl⟩
      rw [← hN]
      have HN := hid hN
      have hNb : N ≤ 140737488355327 := by omega
      clear hN
      go_wp2_with fail
      with_reducible refine (grow8_any N _ hNb).mono ?_
      rintro e w1 ⟨a3, c3, rfl, o3, hc1⟩
      have hb1 : Below w.heap.size w w1 := bchain (by repeat' (first | with_reducible exact hb0 | with_reducible refine Below.drew ?_ | with_reducible refine below_drewN ?_ _ | with_reducible refine Below.alloc ?_ (by have := hb0.size; first | (simp; done) | (simp; omega) | omega) _ | with_reducible refine Below.setCell ?_ (by first | (simp; done) | (simp; omega) | omega) _)) hc1
      clear hc1 hb0
      have k0' := cell_later hb1 k0
      have k1' := cell_later hb1 k1
      have hx1 := hx.later hb1
      have hy1 := hy.later hb1
      have zB1 : B < w1.heap.size := Nat.lt_of_lt_of_le zB hb1.size
      go_wp2_with fail
      refine wp_gen fun w2 hc2 => ?_
      have hb2 : Below w.heap.size w w2 := bchain hb1 hc2
      have o4 := o3.later hc2
      have l0 := cell_later hb2 k0
      have l1 := cell_later hb2 k1
      have hx2 := hx.later hb2
      have hy2 := hy.later hb2
      have z2 := hb2.size
      clear k0' k1' hx1 hy1 hc2 o3 hb1
      go_loopw [6, 27] (fun s q wr => ∃ (k : Nat) (av : Option Addr) (cv m : Nat), k ≤ 2 ∧ q = .int .i64 k ∧ s = .slice av m cv ∧ Hid (m = if k = 0 then 0 else if k = 1 then n1 else N) ∧ Below w.heap.size w wr ∧ OwnX wr w.heap.size 5 1 (.slice av m cv) m ((if k = 0 then [] else if k = 1 then xs else xs ++ ys).map (Value.int .u8))) (fun _ q _ => 2 - (intOf q).toNat)
      case atStart => exact ⟨0, a3, c3, 0, by omega, rfl, rfl, hid rfl, hb2, by simpa using o4⟩
      case round =>
        clear o4 l0 l1 hx2 hy2 z2
        obtain ⟨k, av, cv, m, hk, rfl, rfl, HM, hbw, ow⟩ := hrel
        have l0 := cell_later hbw k0
        have l1 := cell_later hbw k1
        have hx2 := hx.later hbw
        have hy2 := hy.later hbw
        have z2 := hbw.size
        rcases (by omega : k = 0 ∨ k = 1 ∨ k = 2) with rfl | rfl | rfl
        · have hm : m = 0 := by simpa using HM.out
          have HL0 := hid (show (xs.map (Value.int .u8)).length = n1 * 1 by rw [List.length_map, H1.out, Nat.mul_one])
          have hbd : m + n1 ≤ 140737488355327 := by omega
          have Hm := hid hm
          clear hm
          go_wp2_with (at_builtin; refine stop ?_)
          refine Stop.go ?_
          refine wpList_append_x _ rfl _ _ 43 rfl w.heap.size 5 i0 (.int .u8 0) 1 1 Tryd.underlying43 hi hz0 hz1 hz2 rfl (by decide) (.slice av m cv) m _ rfl ow a1 n1 c1 (xs.map (Value.int .u8)) rfl HL0.out hx2 (ints_oneCell _ _) (by unfold maxLen; omega) (by omega) z2 ?_
          intro a5 c5 w5 o5 hg hk5
          have hb5 : Below w.heap.size w w5 := below_grownX hbw hg z2 (fun q h => (ow.lt q h).1)
          go_wp2_with fail
          go_roundw
          case rel => exact ⟨1, a5, c5, m + n1, by omega, by go_num, rfl, hid (by have := Hm.out; simp; omega), hb5, by simpa using o5⟩
          case measure => simp [intOf]
        · have hm : m = n1 := by simpa using HM.out
          have HL1 := hid (show (ys.map (Value.int .u8)).length = n2 * 1 by rw [List.length_map, H2.out, Nat.mul_one])
          have hbd : m + n2 ≤ 140737488355327 := by omega
          have Hm := hid hm
          clear hm
          go_wp2_with (at_builtin; refine stop ?_)
          refine Stop.go ?_
          refine wpList_append_x _ rfl _ _ 43 rfl w.heap.size 5 i0 (.int .u8 0) 1 1 Tryd.underlying43 hi hz0 hz1 hz2 rfl (by decide) (.slice av m cv) m _ rfl ow a2 n2 c2 (ys.map (Value.int .u8)) rfl HL1.out hy2 (ints_oneCell _ _) (by unfold maxLen; omega) (by omega) z2 ?_
          intro a5 c5 w5 o5 hg hk5
          have hb5 : Below w.heap.size w w5 := below_grownX hbw hg z2 (fun q h => (ow.lt q h).1)
          go_wp2_with fail
          go_roundw
          case rel => exact ⟨2, a5, c5, m + n2, by omega, by go_num, rfl, hid (by have := Hm.out; have := HN.out; simp; omega), hb5, by simpa using o5⟩
          case measure => simp [intOf]
        · have hm : m = N := by simpa using HM.out
          have Hm := hid hm
          clear hm
          go_wp2_with fail
          go_ret
          have e1 : m = n1 + n2 := by rw [Hm.out, HN.out]
          have ow' : OwnX wr w.heap.size 5 1 (.slice av m cv) m ((xs ++ ys).map (Value.int .u8)) := by simpa using ow
          rw [e1] at ow'
          exact ⟨av, cv, congrArg (fun z => Ending.returned (.slice av z cv)) e1, ow', hbw⟩

end Go.Proofs.YthdldmkeoglflaaDoor

/- Bytes put behind those of a mill. -/
namespace Go.Proofs.YthdldmkeoglflaaDoor
set_option maxRecDepth 100000
set_option linter.unusedSimpArgs false
set_option linter.unusedVariables false
set_option linter.unnecessarySimpa false
open Go.RowKit

/-- The words after k blocks of the bytes were ground. -/
def grindN (hs bs : List Int) : Nat → List Int
  | 0 => hs
  | k + 1 => ground (grindN hs bs k) (bs.drop (64 * k))
def mill (hs bs : List Int) : List Int := grindN hs bs (bs.length / 64)
theorem grindN_len (hs bs : List Int) : ∀ k, (grindN hs bs k).length = hs.length
  | 0 => rfl
  | k + 1 => by rw [grindN, ground_len]; exact grindN_len hs bs k
theorem grindN_rng {hs : List Int} (h : Rng32 hs) (bs : List Int) : ∀ k, Rng32 (grindN hs bs k)
  | 0 => h
  | k + 1 => ground_rng (grindN_rng h bs k) _
theorem V8.of_list (l : List Int) (h : l.length = 8) : ∃ v : V8, v.list = l := by
  match l, h with
  | [a, b, c, d, e, f, g, z], _ => exact ⟨⟨a, b, c, d, e, f, g, z⟩, rfl⟩
def Bytes8 (l : List Int) : Prop := ∀ x ∈ l, 0 ≤ x ∧ x < 256
theorem Bytes8.drop {l : List Int} (h : Bytes8 l) (k : Nat) : Bytes8 (l.drop k) := fun x hx => h x (List.mem_of_mem_drop hx)
theorem Bytes8.take {l : List Int} (h : Bytes8 l) (k : Nat) : Bytes8 (l.take k) := fun x hx => h x (List.mem_of_mem_take hx)
theorem Bytes8.append {l m : List Int} (h : Bytes8 l) (k : Bytes8 m) : Bytes8 (l ++ m) := fun x hx => (List.mem_append.1 hx).elim (h x) (k x)
theorem ht_bytes : Tryd.prog.underlying 43 = some (.slice (Tryd.prog.elem 43)) := by kernel_rfl
theorem hsz_bytes (w : World) : (sizeOf (Tryd.prog.elem 43)).run Tryd.prog w = .ok 1 w := by kernel_rfl
theorem CellsAt.dropAt {w : World} {a : Option Addr} {cs : List Value} (h : CellsAt w a cs) (k : Nat) (hk : cs.length ≤ k) : CellsAt w a (cs.drop k) := by left; rw [List.drop_eq_nil_iff]; exact hk

def sliceLen8 : Value → Nat
  | .slice _ n _ => n
  | _ => 0
set_option maxRecDepth 100000 in
set_option maxHeartbeats 4000000 in
theorem feed_any (v : V8) (rs ys : List Int) (N : Int) (ra ba : Option Addr) (rn rc bn bc : Nat) (w : World) (hv : v.ok) (hrn : rn = rs.length) (hbn : bn = ys.length) (hr : CellsAt w ra (rs.map (Value.int .u8))) (hy : CellsAt w ba (ys.map (Value.int .u8)))
    (hr8 : Bytes8 rs) (hy8 : Bytes8 ys) (hK : CellsAt w (some ⟨6, 0, none⟩) (kcs.map (Value.int .u32))) (hw0 : 6 < w.heap.size) (hb : rn + bn ≤ 140737488355327) (hN0 : 0 ≤ N) (hN1 : N ≤ 1000000) :
    Calls Tryd.prog 119 #[.agg #[.int .u32 v.a, .int .u32 v.b, .int .u32 v.c, .int .u32 v.d, .int .u32 v.e, .int .u32 v.f, .int .u32 v.g, .int .u32 v.z, .slice ra rn rc, .int .i64 N], .slice ba bn bc] w fun e w' =>
      ∃ (u : V8) (a' : Option Addr) (m c' : Nat), e = .returned (.agg #[.int .u32 u.a, .int .u32 u.b, .int .u32 u.c, .int .u32 u.d, .int .u32 u.e, .int .u32 u.f, .int .u32 u.g, .int .u32 u.z, .slice a' m c', .int .i64 (N + bn)]) ∧ u.list = mill v.list (rs ++ ys) ∧ m = (rs ++ ys).length % 64 ∧ OwnX w' w.heap.size 5 1 (.slice a' m c') m (((rs ++ ys).drop ((rs ++ ys).length / 64 * 64)).map (Value.int .u8)) ∧ Below w.heap.size w w' := by
  have HV := hid hv
  have HRN := hid hrn
  have HBN := hid hbn
  clear hv hrn hbn
  go_enter Tryd.func119, Tryd.ntmps119
  have hb0 := Below.refl w.heap.size w
  go_upto_region 1 with fail
  refine wp_gen fun w1 hc1 => ?_
  have hM : Blk w1 w.heap.size 159 (v.list.map (Value.int .u32) ++ [.slice ra rn rc, .int .i64 N]) := Blk.later ((Blk.newA w _ _ _ (v.list.map (Value.int .u32) ++ [.slice ra rn rc, .int .i64 N]) rfl (by rfl)).alloc _) hc1
  have hR : Blk w1 (w.heap.size + 1) 159 (List.replicate 8 (Value.int .u32 0) ++ [.slice none 0 0, .int .i64 0]) := Blk.later (Blk.newA _ _ _ _ (List.replicate 8 (Value.int .u32 0) ++ [.slice none 0 0, .int .i64 0]) (by simp) (by rfl)) hc1
  have hr1 : CellsAt w1 ra (rs.map (Value.int .u8)) := hr.later (bchain (by repeat' (first | with_reducible exact hb0 | with_reducible refine Below.drew ?_ | with_reducible refine below_drewN ?_ _ | with_reducible refine Below.alloc ?_ (by have := hb0.size; first | (simp; done) | (simp; omega) | omega) _ | with_reducible refine Below.setCell ?_ (by first | (simp; done) | (simp; omega) | omega) _)) hc1)
  have hy1 : CellsAt w1 ba (ys.map (Value.int .u8)) := hy.later (bchain (by repeat' (first | with_reducible exact hb0 | with_reducible refine Below.drew ?_ | with_reducible refine below_drewN ?_ _ | with_reducible refine Below.alloc ?_ (by have := hb0.size; first | (simp; done) | (simp; omega) | omega) _ | with_reducible refine Below.setCell ?_ (by first | (simp; done) | (simp; omega) | omega) _)) hc1)
  have hK1 : CellsAt w1 (some ⟨6, 0, none⟩) (kcs.map (Value.int .u32)) := hK.later (bchain (by repeat' (first | with_reducible exact hb0 | with_reducible refine Below.drew ?_ | with_reducible refine below_drewN ?_ _ | with_reducible refine Below.alloc ?_ (by have := hb0.size; first | (simp; done) | (simp; omega) | omega) _ | with_reducible refine Below.setCell ?_ (by first | (simp; done) | (simp; omega) | omega) _)) hc1)
  have hb1 : Below w.heap.size w w1 := bchain (by repeat' (first | with_reducible exact hb0 | with_reducible refine Below.drew ?_ | with_reducible refine below_drewN ?_ _ | with_reducible refine Below.alloc ?_ (by have := hb0.size; first | (simp; done) | (simp; omega) | omega) _ | with_reducible refine Below.setCell ?_ (by first | (simp; done) | (simp; omega) | omega) _)) hc1
  clear hc1 hr hy hK hb0
  have zR1 := hR.lt
  have m8 := hM.cell (j := 8) (v := .slice ra rn rc) rfl
  go_wp2_with fail
  with_reducible refine (concat2_any w1.heap.size ra ba rn bn rc bc rs ys _ HRN.out HBN.out (by go_simp) (by go_simp) (by repeat' (first | with_reducible exact hr1 | with_reducible refine CellsAt.setFar ?_ ?_ _ | with_reducible refine CellsAt.alloc ?_ _ | with_reducible refine CellsAt.drew ?_ | with_reducible refine CellsAt.drewN ?_ _ | assumption | (simp; omega) | omega)) (by repeat' (first | with_reducible exact hy1 | with_reducible refine CellsAt.setFar ?_ ?_ _ | with_reducible refine CellsAt.alloc ?_ _ | with_reducible refine CellsAt.drew ?_ | with_reducible refine CellsAt.drewN ?_ _ | assumption | (simp; omega) | omega)) hb).mono ?_
  rintro e w2 ⟨a1, c1, rfl, o1, hc2⟩
  have hb2 : Below w.heap.size w w2 := bchain (by repeat' (first | with_reducible exact hb1 | with_reducible refine Below.drew ?_ | with_reducible refine below_drewN ?_ _ | with_reducible refine Below.alloc ?_ (by have := hb1.size; first | (simp; done) | (simp; omega) | omega) _ | with_reducible refine Below.setCell ?_ (by first | (simp; done) | (simp; omega) | omega) _)) hc2
  have hst2 : Below w1.heap.size w1 w2 := bchain (by repeat' (first | with_reducible exact Below.refl _ _ | with_reducible refine Below.drew ?_ | with_reducible refine below_drewN ?_ _ | with_reducible refine Below.alloc ?_ (by first | (simp; done) | (simp; omega) | omega) _ | with_reducible refine Below.setCell ?_ (by first | (simp; done) | (simp; omega) | omega) _)) hc2
  replace hM := hM.later hst2
  replace hR := hR.later hst2
  replace hr1 := hr1.later hst2
  replace hy1 := hy1.later hst2
  replace hK1 := hK1.later hst2
  clear hst2
  clear hc2 hb1
  clear m8
  clear hr1
  clear hy1
  obtain ⟨bs, hbs⟩ : ∃ bs, bs = rs ++ ys := ⟨_, rfl⟩
  have hb8 : Bytes8 bs := hbs ▸ hr8.append hy8
  have hbl : rn + bn = bs.length := by rw [hbs, List.length_append, ← HRN.out, ← HBN.out]
  obtain ⟨L, hL⟩ : ∃ L, L = rn + bn := ⟨_, rfl⟩
  rw [← hbs, ← hL] at o1
  rw [← hL]
  have hLb : L ≤ 140737488355327 := by omega
  have hLl : L = bs.length := by omega
  have k1 := o1.cells
  have z1 := hb2.size
  have H_hbs := hid hbs
  have H_hbl := hid hbl
  have H_hL := hid hL
  have H_hLl := hid hLl
  clear hbs hbl hL hLl
  obtain ⟨_, _, hcv, hnc1, k1⟩ := o1.cells
  cases hcv
  have hcm : c1 ≤ maxLen := by
    rcases o1.2 with ⟨h1, h2⟩ | ⟨g, cap, cur, h1, h2, h3, h4, h5, h6, h7⟩
    · cases h1; exact Nat.zero_le _
    · cases h1; exact h5
  have p1 : ∀ ad, a1 = some ad → ad.block ≠ w.heap.size := fun ad e => by have := (o1.addr ad e).1; simp only [World.size_alloc] at this; omega
  have p2 : ∀ ad, a1 = some ad → ad.block ≠ w.heap.size + 1 := fun ad e => by have := (o1.addr ad e).1; simp only [World.size_alloc] at this; omega
  clear o1
  go_wp2_with fail
  go_loopw [5] (fun s wr => ∃ (k : Nat) (av : Option Addr) (mm cv : Nat) (hs : List Int), s = .slice av mm cv ∧ Hid (mm + 64 * k = L) ∧ Hid (hs = grindN v.list bs k) ∧ Below w.heap.size w wr ∧ Blk wr w.heap.size 159 (hs.map (Value.int .u32) ++ [.slice ra rn rc, .int .i64 N]) ∧ Blk wr (w.heap.size + 1) 159 (List.replicate 8 (Value.int .u32 0) ++ [.slice none 0 0, .int .i64 0]) ∧ CellsAt wr (some ⟨6, 0, none⟩) (kcs.map (Value.int .u32)) ∧ CellsAt wr av ((bs.drop (64 * k)).map (Value.int .u8)) ∧ (∀ ad, av = some ad → ad.block ≠ w.heap.size) ∧ mm ≤ cv ∧ cv ≤ maxLen) (fun s _ => sliceLen8 s)
  case atStart => exact ⟨0, a1, L, c1, v.list, rfl, hid rfl, hid rfl, hb2, hM, hR, hK1, k1, p1, hnc1, hcm⟩
  case round =>
    clear hM hR hK1 k1 hnc1 hcm z1 p1 p2 zR1
    obtain ⟨k, av, mm, cv, hs, rfl, Hmm, Hhs, hbw, hM, hR, hK1, k1, p1, hnc1, hcm⟩ := hrel
    have Hl8 := hid (show hs.length = 8 by rw [Hhs.out, grindN_len]; rfl)
    have Hrng : Hid (Rng32 hs) := hid (by rw [Hhs.out]; exact grindN_rng HV.out.list bs k)
    have hmml : mm = (bs.drop (64 * k)).length := by rw [List.length_drop, ← H_hLl.out]; have := Hmm.out; omega
    have Hmml := hid hmml
    have Hcm := hid hcm
    clear hmml hcm
    by_cases h64 : 64 ≤ mm
    · have h64' : (64 : Int) ≤ (mm : Int) := by omega
      obtain ⟨xb, xo, rfl, hcell⟩ := k1.int (by have := Hmml.out; omega)
      clear hcell
      obtain ⟨⟨bd, od, id⟩, hsl, hadb, hade⟩ := slice_from (P := Tryd.prog) ht_bytes hsz_bytes xb xo mm cv 64 h64 hnc1
      rw [show ((64 : Nat) : Int) = 64 from rfl] at hsl
      have Hgr := hid (grind_any hs [.slice ra rn rc, .int .i64 N] w.heap.size 159 (bs.drop (64 * k)) mm cv (some ⟨xb, xo, none⟩) wr Hl8.out Hrng.out hM (by omega) hK1 h64 (by have := Hmml.out; omega) k1 hnc1 Hcm.out (hb8.drop _))
      have H_hadb := hid hadb
      have H_hade := hid hade
      clear hadb hade
      go_wp2_with fail
      with_reducible refine Hgr.out.mono ?_
      rintro e w3 ⟨rfl, hg, hM3⟩
      have hb3 : Below w.heap.size w w3 := gb_below hg hbw hbw.size (Nat.le_refl _)
      have hR3 := gb_blk hg hR (by omega)
      have hK3 := gb_cells hg hK1 (fun ad e => by cases e; simp; omega)
      have k3 := gb_cells hg k1 p1
      have kD : CellsAt w3 (some ⟨bd, od, id⟩) ((bs.drop (64 * (k + 1))).map (Value.int .u8)) := by
        have e1 : (bs.drop (64 * (k + 1))).map (Value.int .u8) = ((bs.drop (64 * k)).map (Value.int .u8)).drop 64 := by rw [← List.map_drop, List.drop_drop]; rfl
        rw [e1]
        by_cases hlast : 64 < mm
        · rw [H_hade.out hlast]; exact k3.dropK 64
        · left; rw [List.drop_eq_nil_iff, List.length_map, ← Hmml.out]; omega
      have pD : ∀ ad, some (Addr.mk bd od id) = some ad → ad.block ≠ w.heap.size := fun ad e => by cases e; exact fun h => p1 _ rfl (H_hadb.out.symm.trans h)
      clear hM hR hK1 k1
      go_wp2_with fail
      go_roundw
      case rel => exact ⟨k + 1, some ⟨bd, od, id⟩, mm - 64, cv - 64, ground hs (bs.drop (64 * k)), rfl, hid (by have := Hmm.out; omega), hid (by rw [Hhs.out]; rfl), hb3, hM3, hR3, hK3, kD, pD, by omega, by have := Hcm.out; omega⟩
      case measure => simp [sliceLen8]; omega
    · have h64' : (mm : Int) < 64 := by omega
      go_upto_region 5 with fail
      obtain ⟨u, hu⟩ := V8.of_list hs Hl8.out
      rw [← hu] at hM
      have Hu := hid hu
      clear hu
      have m9 : wr.cell? ⟨w.heap.size, 9, none⟩ = some (.int .i64 N) := hM.cell rfl
      have hdl := hid (show (bs.drop (64 * k)).length ≤ 140737488355327 by rw [List.length_drop, ← H_hLl.out]; omega)
      have hwN : IntKind.i64.wrap (N + (bn : Int)) = N + (bn : Int) := IntWalk.i64_in _ (by omega)
      go_region_with ((first | (go_at_call 132; with_reducible refine (clone8_any av mm cv (bs.drop (64 * k)) _ Hmml.out (by repeat' (first | with_reducible exact k1 | with_reducible refine CellsAt.setFar ?_ ?_ _ | with_reducible refine CellsAt.alloc ?_ _ | with_reducible refine CellsAt.drew ?_ | with_reducible refine CellsAt.drewN ?_ _ | assumption | (simp; omega) | omega)) hdl.out).mono ?_; rintro e w3 ⟨a3, c3, rfl, o3, hc3⟩; (have hst3 : Below wr.heap.size wr w3 := bchain (by repeat' (first | with_reducible exact Below.refl _ _ | with_reducible refine Below.drew ?_)) hc3); (have hM3 := hM.later hst3); (have hR3 := hR.later hst3);  (have m0 : w3.cell? ⟨w.heap.size, 0, none⟩ = some (.int .u32 u.a) := hM3.cell rfl); (have m1 : w3.cell? ⟨w.heap.size, 1, none⟩ = some (.int .u32 u.b) := hM3.cell rfl); (have m2 : w3.cell? ⟨w.heap.size, 2, none⟩ = some (.int .u32 u.c) := hM3.cell rfl); (have m3 : w3.cell? ⟨w.heap.size, 3, none⟩ = some (.int .u32 u.d) := hM3.cell rfl); (have m4 : w3.cell? ⟨w.heap.size, 4, none⟩ = some (.int .u32 u.e) := hM3.cell rfl); (have m5 : w3.cell? ⟨w.heap.size, 5, none⟩ = some (.int .u32 u.f) := hM3.cell rfl); (have m6 : w3.cell? ⟨w.heap.size, 6, none⟩ = some (.int .u32 u.g) := hM3.cell rfl); (have m7 : w3.cell? ⟨w.heap.size, 7, none⟩ = some (.int .u32 u.z) := hM3.cell rfl); (have m8 : w3.cell? ⟨w.heap.size, 8, none⟩ = some (.slice ra rn rc) := hM3.cell rfl); (have m9 : w3.cell? ⟨w.heap.size, 9, none⟩ = some (.int .i64 N) := hM3.cell rfl); (have mf0 : w3.frozen? ⟨w.heap.size, 0, none⟩ = false := hM3.free 0); (have mf1 : w3.frozen? ⟨w.heap.size, 1, none⟩ = false := hM3.free 1); (have mf2 : w3.frozen? ⟨w.heap.size, 2, none⟩ = false := hM3.free 2); (have mf3 : w3.frozen? ⟨w.heap.size, 3, none⟩ = false := hM3.free 3); (have mf4 : w3.frozen? ⟨w.heap.size, 4, none⟩ = false := hM3.free 4); (have mf5 : w3.frozen? ⟨w.heap.size, 5, none⟩ = false := hM3.free 5); (have mf6 : w3.frozen? ⟨w.heap.size, 6, none⟩ = false := hM3.free 6); (have mf7 : w3.frozen? ⟨w.heap.size, 7, none⟩ = false := hM3.free 7); (have mf8 : w3.frozen? ⟨w.heap.size, 8, none⟩ = false := hM3.free 8); (have mf9 : w3.frozen? ⟨w.heap.size, 9, none⟩ = false := hM3.free 9); (have r0 : w3.cell? ⟨w.heap.size + 1, 0, none⟩ = some (.int .u32 0) := hR3.cell rfl); (have r1 : w3.cell? ⟨w.heap.size + 1, 1, none⟩ = some (.int .u32 0) := hR3.cell rfl); (have r2 : w3.cell? ⟨w.heap.size + 1, 2, none⟩ = some (.int .u32 0) := hR3.cell rfl); (have r3 : w3.cell? ⟨w.heap.size + 1, 3, none⟩ = some (.int .u32 0) := hR3.cell rfl); (have r4 : w3.cell? ⟨w.heap.size + 1, 4, none⟩ = some (.int .u32 0) := hR3.cell rfl); (have r5 : w3.cell? ⟨w.heap.size + 1, 5, none⟩ = some (.int .u32 0) := hR3.cell rfl); (have r6 : w3.cell? ⟨w.heap.size + 1, 6, none⟩ = some (.int .u32 0) := hR3.cell rfl); (have r7 : w3.cell? ⟨w.heap.size + 1, 7, none⟩ = some (.int .u32 0) := hR3.cell rfl); (have r8 : w3.cell? ⟨w.heap.size + 1, 8, none⟩ = some (.slice none 0 0) := hR3.cell rfl); (have r9 : w3.cell? ⟨w.heap.size + 1, 9, none⟩ = some (.int .i64 0) := hR3.cell rfl); (have rf0 : w3.frozen? ⟨w.heap.size + 1, 0, none⟩ = false := hR3.free 0); (have rf1 : w3.frozen? ⟨w.heap.size + 1, 1, none⟩ = false := hR3.free 1); (have rf2 : w3.frozen? ⟨w.heap.size + 1, 2, none⟩ = false := hR3.free 2); (have rf3 : w3.frozen? ⟨w.heap.size + 1, 3, none⟩ = false := hR3.free 3); (have rf4 : w3.frozen? ⟨w.heap.size + 1, 4, none⟩ = false := hR3.free 4); (have rf5 : w3.frozen? ⟨w.heap.size + 1, 5, none⟩ = false := hR3.free 5); (have rf6 : w3.frozen? ⟨w.heap.size + 1, 6, none⟩ = false := hR3.free 6); (have rf7 : w3.frozen? ⟨w.heap.size + 1, 7, none⟩ = false := hR3.free 7); (have rf8 : w3.frozen? ⟨w.heap.size + 1, 8, none⟩ = false := hR3.free 8); (have rf9 : w3.frozen? ⟨w.heap.size + 1, 9, none⟩ = false := hR3.free 9); (have z3 := hst3.size))))
      all_goals go_wp2_with fail
      all_goals
        have hk : (rs ++ ys).length / 64 = k ∧ (rs ++ ys).length % 64 = mm := by rw [← H_hbs.out, ← H_hLl.out]; have := Hmm.out; omega
        have hne1 : ∀ kk, (Value.slice a3 mm c3).ownBlock = some kk → wr.heap.size ≤ kk := fun kk hkk => by have := (o3.lt kk hkk).1; simpa using this
        have zHr : w.heap.size + 1 < wr.heap.size := hR.lt
        have hneH : (Value.slice a3 mm c3).ownBlock ≠ some w.heap.size := fun e => by have := hne1 _ e; omega
        have hneR : (Value.slice a3 mm c3).ownBlock ≠ some (w.heap.size + 1) := fun e => by have := hne1 _ e; omega
        have hb3 : Below w.heap.size w w3 := bchain hbw hst3
        have o3' : OwnX w3 w.heap.size 5 1 (.slice a3 mm c3) mm (((rs ++ ys).drop ((rs ++ ys).length / 64 * 64)).map (Value.int .u8)) := by
          rw [hk.1, ← H_hbs.out, Nat.mul_comm]
          exact o3.mono (by simp; omega)
        refine bodyPost_ret (v := .agg #[.int .u32 u.a, .int .u32 u.b, .int .u32 u.c, .int .u32 u.d, .int .u32 u.e, .int .u32 u.f, .int .u32 u.g, .int .u32 u.z, .slice a3 mm c3, .int .i64 (N + (bn : Int))]) (by simp [results, Tryd.results119, go_sem, *]) rfl ⟨u, a3, mm, c3, rfl, ?_, hk.2.symm, ?_, ?_⟩
        · rw [Hu.out, Hhs.out]; unfold mill; rw [hk.1, H_hbs.out]
        · repeat' (first | with_reducible exact o3' | with_reducible refine OwnX.drew ?_ | (refine OwnX.setFar ?_ hneH _) | (refine OwnX.setFar ?_ hneR _))
        · repeat' (first | with_reducible exact hb3 | with_reducible refine Below.drew ?_ | with_reducible refine Below.setCell ?_ (by first | (simp; done) | (simp; omega) | omega) _)

end Go.Proofs.YthdldmkeoglflaaDoor

/- The reference's words of a block, as plain data; its constants. -/
namespace Go.Proofs.YthdldmkeoglflaaDoor
set_option maxRecDepth 100000
set_option linter.unusedSimpArgs false
set_option linter.unusedVariables false
set_option linter.unnecessarySimpa false
open Go.RowKit

theorem info_u32 : (Tryd.prog.info? 24).map (fun i => (i.zero, i.size, i.bytes)) = some (some (.int .u32 0), 1, 4) := by kernel_rfl
/-- The word at place t of a block. -/
def wdAt (bs : List Int) (t : Nat) : Int := ((bs[4 * t]?.getD 0 * 256 + bs[4 * t + 1]?.getD 0) * 256 + bs[4 * t + 2]?.getD 0) * 256 + bs[4 * t + 3]?.getD 0
def wds (bs : List Int) (k : Nat) : List Int := (List.range k).map (wdAt bs)
def wdx (bs : List Int) : Nat → List Int
  | 0 => wds bs 16
  | k + 1 => wdx bs k ++ [arwNext (wdx bs k) (16 + k)]
theorem Bytes8.at {l : List Int} (h : Bytes8 l) (j : Nat) : 0 ≤ l[j]?.getD 0 ∧ l[j]?.getD 0 < 256 := by
  by_cases hj : j < l.length
  · rw [List.getElem?_eq_getElem hj]; exact h _ (List.getElem_mem hj)
  · rw [List.getElem?_eq_none (by omega)]; simp
theorem cellsAt_newL (w : World) (cs : List Value) (t : TypeId) {a : Array Value} (h : a = cs.toArray) : CellsAt (w.alloc (.cells a t)) (some ⟨w.heap.size, 0, none⟩) cs := by
  subst h
  have := Blk.new w w.heap.size cs t rfl
  exact .inr ⟨_, _, rfl, fun j u hj => by rw [Nat.zero_add]; exact this.cell hj⟩
theorem wdW_eq (x0 x1 x2 x3 : Int) (h0 : 0 ≤ x0) (h0' : x0 < 256) (h1 : 0 ≤ x1) (h1' : x1 < 256) (h2 : 0 ≤ x2) (h2' : x2 < 256) (h3 : 0 ≤ x3) (h3' : x3 < 256) : (IntKind.u32.wrap (IntKind.u32.wrap (IntKind.u32.wrap (IntKind.u32.wrap (IntKind.u32.wrap (IntKind.u32.wrap (IntKind.u32.wrap x0 * 256) + IntKind.u32.wrap x1) * 256) + IntKind.u32.wrap x2) * 256) + IntKind.u32.wrap x3)) = ((x0 * 256 + x1) * 256 + x2) * 256 + x3 := by
  simp only [IntKind.wrap_u32]; omega
theorem ow_last {w : World} {base e size : Nat} {v : Value} {n : Nat} {l : List Value} {k : IntKind} {x y : Int} (h : OwnX w base e size v n (l ++ [.int k x])) (hx : x = y) : OwnX w base e size v n (l ++ [.int k y]) := hx ▸ h
theorem wds_len (bs : List Int) (k : Nat) : (wds bs k).length = k := by unfold wds; simp
theorem wdx_len (bs : List Int) : ∀ k, (wdx bs k).length = 16 + k
  | 0 => wds_len bs 16
  | k + 1 => by rw [wdx, List.length_append, wdx_len bs k]; rfl

theorem wdAt_rng {bs : List Int} (h : Bytes8 bs) (t : Nat) : 0 ≤ wdAt bs t ∧ wdAt bs t < 4294967296 := by
  unfold wdAt
  have h0 := h.at (4 * t)
  have h1 := h.at (4 * t + 1)
  have h2 := h.at (4 * t + 2)
  have h3 := h.at (4 * t + 3)
  omega
theorem wdx_rng {bs : List Int} (h : Bytes8 bs) : ∀ k, Rng32 (wdx bs k)
  | 0 => fun x hx => by
    obtain ⟨t, _, rfl⟩ := List.mem_map.1 hx
    exact wdAt_rng h t
  | k + 1 => fun x hx => by
    rcases List.mem_append.1 hx with h1 | h1
    · exact wdx_rng h k x h1
    · rw [List.mem_singleton.1 h1]; exact arwNext_rng _ _

end Go.Proofs.YthdldmkeoglflaaDoor

/- The program's words of a block are the reference's. -/
namespace Go.Proofs.YthdldmkeoglflaaDoor
set_option maxRecDepth 100000
open Go.RowKit
set_option linter.unusedSimpArgs false

theorem bits_or_u32_nat (a b : Nat) (ha : a < 4294967296) (hb : b < 4294967296) : bits .or .u32 (a : Int) (b : Int) = ((a ||| b : Nat) : Int) := by
  have hx : a ||| b < 2 ^ 32 := Nat.or_lt_two_pow (by omega) (by omega)
  have h1 : (BitVec.ofInt 32 (a : Int)).toNat = a := by
    rw [BitVec.ofInt_natCast, BitVec.toNat_ofNat]; exact Nat.mod_eq_of_lt (by omega)
  have h2 : (BitVec.ofInt 32 (b : Int)).toNat = b := by
    rw [BitVec.ofInt_natCast, BitVec.toNat_ofNat]; exact Nat.mod_eq_of_lt (by omega)
  show IntKind.u32.wrap ((BitVec.ofInt 32 (a : Int) ||| BitVec.ofInt 32 (b : Int)).toNat : Int) = _
  rw [BitVec.toNat_or, h1, h2, IntKind.wrap_u32]
  omega
theorem or_byte (x b : Int) (hx0 : 0 ≤ x) (hx1 : x < 16777216) (hb0 : 0 ≤ b) (hb1 : b < 256) : bits .or .u32 (x * 256 % 4294967296) b = x * 256 + b := by
  obtain ⟨m, rfl⟩ : ∃ m : Nat, x = m := ⟨x.toNat, by omega⟩
  obtain ⟨n, rfl⟩ : ∃ n : Nat, b = n := ⟨b.toNat, by omega⟩
  have h1 : (m : Int) * 256 % 4294967296 = ((m * 256 : Nat) : Int) := by omega
  rw [h1, bits_or_u32_nat _ _ (by omega) (by omega)]
  have h2 := Nat.shiftLeft_add_eq_or_of_lt (show n < 2 ^ 8 by omega) m
  rw [Nat.shiftLeft_eq] at h2
  have h3 : m * 256 ||| n = m * 256 + n := h2.symm
  rw [h3]; omega
def pw (bs : List Int) (j : Nat) : Nat → Int
  | 0 => 0
  | r + 1 => pw bs j r * 256 + bs[4 * j + r]?.getD 0
theorem pw_bd {bs : List Int} (h : Bytes8 bs) (j : Nat) : (0 ≤ pw bs j 1 ∧ pw bs j 1 < 256) ∧ (0 ≤ pw bs j 2 ∧ pw bs j 2 < 65536) ∧ (0 ≤ pw bs j 3 ∧ pw bs j 3 < 16777216) := by
  have h0 := h.at (4 * j + 0)
  have h1 := h.at (4 * j + 1)
  have h2 := h.at (4 * j + 2)
  simp only [pw]
  omega
theorem pw4 (bs : List Int) (j : Nat) : pw bs j 4 = wdAt bs j := by
  simp only [pw, wdAt, Nat.add_zero]; omega
theorem arr_at {bs : List Int} (h : Bytes8 bs) : ∀ i, i ≤ 64 → ∀ j, j < 64 → (arr bs i)[j]?.getD 0 = if i ≤ 4 * j then 0 else pw bs j (min (i - 4 * j) 4)
  | 0, _, j, hj => by
    rw [if_pos (by omega), arr, List.getElem?_replicate, if_pos hj]; rfl
  | i + 1, hi, j, hj => by
    have ih := arr_at h i (by omega)
    have hlen := arr_len bs i
    rw [arr, List.getElem?_set]
    by_cases e : i / 4 = j
    · subst e
      rw [if_pos rfl, if_pos (by omega), if_neg (by omega)]
      obtain ⟨j, hj'⟩ : ∃ j, j = i / 4 := ⟨_, rfl⟩
      obtain ⟨r, hr⟩ : ∃ r, i = 4 * j + r ∧ r < 4 := ⟨i - 4 * j, by omega, by omega⟩
      rw [← hj']
      have e1 : (arr bs i)[j]?.getD 0 = pw bs j r := by
        rw [ih j (by omega)]
        by_cases h0 : r = 0
        · rw [if_pos (by omega), h0]; rfl
        · rw [if_neg (by omega)]; congr 1; omega
      have e2 : min (i + 1 - 4 * j) 4 = r + 1 := by omega
      have e3 : bs[i]?.getD 0 = bs[4 * j + r]?.getD 0 := by rw [hr.1]
      show bits BinOp.or IntKind.u32 ((arr bs i)[j]?.getD 0 * 256 % 4294967296) (bs[i]?.getD 0) = _
      rw [e1, e2, e3]
      have hb := h.at (4 * j + r)
      have hp := pw_bd h j
      have hx : 0 ≤ pw bs j r ∧ pw bs j r < 16777216 := by
        have : pw bs j 0 = 0 := rfl
        rcases (by omega : r = 0 ∨ r = 1 ∨ r = 2 ∨ r = 3) with h | h | h | h <;> subst h <;> omega
      rw [or_byte _ _ hx.1 hx.2 hb.1 hb.2]; rfl
    · rw [if_neg e, ih j hj]
      by_cases c : i ≤ 4 * j
      · rw [if_pos c, if_pos (by omega)]
      · rw [if_neg c, if_neg (by omega)]; congr 1; omega
theorem ext_getD {a b : List Int} (hl : a.length = b.length) (h : ∀ j, j < a.length → a[j]?.getD 0 = b[j]?.getD 0) : a = b := by
  apply List.ext_getElem hl
  intro j h1 h2
  have := h j h1
  rwa [List.getElem?_eq_getElem h1, List.getElem?_eq_getElem h2] at this
theorem arr64 {bs : List Int} (h : Bytes8 bs) : arr bs 64 = wds bs 16 ++ List.replicate 48 0 := by
  refine ext_getD (by rw [arr_len, List.length_append, wds_len, List.length_replicate]) fun j hj => ?_
  rw [arr_len] at hj
  rw [arr_at h 64 (by omega) j hj]
  by_cases c : j < 16
  · rw [if_neg (by omega), List.getElem?_append_left (by rw [wds_len]; exact c), show min (64 - 4 * j) 4 = 4 by omega, pw4]
    unfold wds
    rw [List.getElem?_map, List.getElem?_range c]; rfl
  · rw [if_pos (by omega), List.getElem?_append_right (by rw [wds_len]; omega), wds_len, List.getElem?_replicate, if_pos (by omega)]; rfl
theorem arwNext_append (l z : List Int) (T : Nat) (h16 : 16 ≤ T) (hT : T ≤ l.length) : arwNext (l ++ z) T = arwNext l T := by
  unfold arwNext
  rw [List.getElem?_append_left (by omega), List.getElem?_append_left (by omega), List.getElem?_append_left (by omega), List.getElem?_append_left (by omega)]
theorem arw_wdx {bs : List Int} (h : Bytes8 bs) : ∀ k, k ≤ 48 → arw bs k = wdx bs k ++ List.replicate (48 - k) 0
  | 0, _ => by rw [arw, arr64 h]; rfl
  | k + 1, hk => by
    have hl := wdx_len bs k
    rw [arw, arw_wdx h k (by omega), arwNext_append _ _ _ (by omega) (by omega), List.set_append_right _ _ (by omega), hl, Nat.sub_self, show 48 - k = (48 - (k + 1)) + 1 by omega, List.replicate_succ, List.set_cons_zero, wdx, List.append_assoc]
    rfl
theorem arw48 {bs : List Int} (h : Bytes8 bs) : arw bs 48 = wdx bs 48 := by
  rw [arw_wdx h 48 (Nat.le_refl _)]; simp
theorem arr_take (bs : List Int) : ∀ i, i ≤ 64 → arr (bs.take 64) i = arr bs i
  | 0, _ => rfl
  | i + 1, hi => by
    rw [arr, arr, arr_take bs i (by omega), List.getElem?_take, if_pos (by omega)]
theorem arw_take (bs : List Int) : ∀ k, arw (bs.take 64) k = arw bs k
  | 0 => arr_take bs 64 (Nat.le_refl _)
  | k + 1 => by rw [arw, arw, arw_take bs k]
theorem ground_take (hs bs : List Int) : ground hs (bs.take 64) = ground hs bs := by unfold ground; rw [arw_take]

end Go.Proofs.YthdldmkeoglflaaDoor
