/- Words that are turned. -/
import Derived.Test.YtfabcdpmnbeflaaDoorMem4
import Derived.Test.YtfabcdpmnbeflaaDoorRows
import Derived.RegionTactic
namespace Go.Proofs.YtfabcdpmnbeflaaDoor
set_option maxRecDepth 100000
set_option linter.unusedSimpArgs false
set_option linter.unusedVariables false
set_option linter.unnecessarySimpa false
open Go.RowKit

/-- x turned right by n. -/
def rotr (x : Int) (n : Nat) : Int := bits BinOp.or IntKind.u32 (x / 2 ^ n) (x * 2 ^ (32 - n) % 4294967296)
def mixF (x : Int) (i j k : Nat) : Int := bits BinOp.xor IntKind.u32 (bits BinOp.xor IntKind.u32 (rotr x i) (rotr x j)) (rotr x k)
theorem bits_or_comm32 (a b : Int) : bits BinOp.or IntKind.u32 a b = bits BinOp.or IntKind.u32 b a := by
  show IntKind.u32.wrap ((BitVec.ofInt 32 a ||| BitVec.ofInt 32 b).toNat : Int) = IntKind.u32.wrap ((BitVec.ofInt 32 b ||| BitVec.ofInt 32 a).toNat : Int)
  rw [BitVec.or_comm]
theorem wrap_rng32 (a : Int) : 0 ≤ IntKind.u32.wrap a ∧ IntKind.u32.wrap a < 4294967296 := by rw [IntKind.wrap_u32]; omega
theorem or_rng32 (a b : Int) : 0 ≤ bits BinOp.or IntKind.u32 a b ∧ bits BinOp.or IntKind.u32 a b < 4294967296 := wrap_rng32 _
theorem xor_rng32 (a b : Int) : 0 ≤ bits BinOp.xor IntKind.u32 a b ∧ bits BinOp.xor IntKind.u32 a b < 4294967296 := wrap_rng32 _
theorem and_rng32 (a b : Int) : 0 ≤ bits BinOp.and IntKind.u32 a b ∧ bits BinOp.and IntKind.u32 a b < 4294967296 := wrap_rng32 _
theorem rotr_rng (x : Int) (n : Nat) : 0 ≤ rotr x n ∧ rotr x n < 4294967296 := or_rng32 _ _
theorem mixF_rng (x : Int) (i j k : Nat) : 0 ≤ mixF x i j k ∧ mixF x i j k < 4294967296 := xor_rng32 _ _
theorem and31 : ∀ n : Fin 32, 1 ≤ n.val → bits BinOp.and IntKind.u64 (IntKind.u64.wrap (-(n.val : Int))) 31 = ((32 - n.val : Nat) : Int) := by decide +kernel
theorem rotl_any (x k : Int) (n : Nat) (w : World) (h0 : 1 ≤ n) (h1 : n ≤ 31) (hk : k = -n) (hx0 : 0 ≤ x) (hx1 : x < 4294967296) :
    Calls Tryd.prog 80 #[.int .u32 x, .int .i64 k] w fun e w' =>
      e = .returned (.int .u32 (rotr x n)) ∧ Below w.heap.size w w' := by
  subst hk
  obtain ⟨s, hs⟩ : ∃ s, s = 32 - n := ⟨_, rfl⟩
  have hA := and31 ⟨n, by omega⟩ h0
  simp only at hA
  rw [← hs] at hA
  have hE : (32 : Int) - (s : Int) = (n : Int) := by omega
  have hB : (1 : Int) ≤ (s : Int) := by omega
  have hD : (s : Int) ≤ 31 := by omega
  have hr : bits BinOp.or IntKind.u32 (x * 2 ^ s % 4294967296) (x / 2 ^ n) = rotr x n := by rw [bits_or_comm32, hs]; rfl
  have Hr := hid hr
  have Hs := hid hs
  clear hr hs
  go_enter Tryd.func80, Tryd.ntmps80
  have hb0 := Below.refl w.heap.size w
  go_wp2_with fail
  go_ret
  exact ⟨ret_int Hr.out, hb0⟩
theorem turn_any (x k : Int) (n : Nat) (w : World) (h0 : 1 ≤ n) (h1 : n ≤ 31) (hk : k = n) (hx0 : 0 ≤ x) (hx1 : x < 4294967296) :
    Calls Tryd.prog 78 #[.int .u32 x, .int .i64 k] w fun e w' =>
      e = .returned (.int .u32 (rotr x n)) ∧ Below w.heap.size w w' := by
  subst hk
  have hB : (1 : Int) ≤ (n : Int) := by omega
  have hD : (n : Int) ≤ 31 := by omega
  go_enter Tryd.func78, Tryd.ntmps78
  have hb0 := Below.refl w.heap.size w
  go_wp2_with fail
  go_region
  all_goals go_wp2_with fail
  go_ret
  exact ⟨rfl, Below.drew (Below.refl _ _)⟩
theorem turn_2 (x : Int) (w : World) (hx0 : 0 ≤ x) (hx1 : x < 4294967296) :
    Calls Tryd.prog 78 #[.int .u32 x, .int .i64 2] w fun e w' =>
      e = .returned (.int .u32 (rotr x 2)) ∧ Below w.heap.size w w' := turn_any x 2 2 w (by omega) (by omega) rfl hx0 hx1
theorem turn_6 (x : Int) (w : World) (hx0 : 0 ≤ x) (hx1 : x < 4294967296) :
    Calls Tryd.prog 78 #[.int .u32 x, .int .i64 6] w fun e w' =>
      e = .returned (.int .u32 (rotr x 6)) ∧ Below w.heap.size w w' := turn_any x 6 6 w (by omega) (by omega) rfl hx0 hx1
theorem turn_7 (x : Int) (w : World) (hx0 : 0 ≤ x) (hx1 : x < 4294967296) :
    Calls Tryd.prog 78 #[.int .u32 x, .int .i64 7] w fun e w' =>
      e = .returned (.int .u32 (rotr x 7)) ∧ Below w.heap.size w w' := turn_any x 7 7 w (by omega) (by omega) rfl hx0 hx1
theorem turn_11 (x : Int) (w : World) (hx0 : 0 ≤ x) (hx1 : x < 4294967296) :
    Calls Tryd.prog 78 #[.int .u32 x, .int .i64 11] w fun e w' =>
      e = .returned (.int .u32 (rotr x 11)) ∧ Below w.heap.size w w' := turn_any x 11 11 w (by omega) (by omega) rfl hx0 hx1
theorem turn_13 (x : Int) (w : World) (hx0 : 0 ≤ x) (hx1 : x < 4294967296) :
    Calls Tryd.prog 78 #[.int .u32 x, .int .i64 13] w fun e w' =>
      e = .returned (.int .u32 (rotr x 13)) ∧ Below w.heap.size w w' := turn_any x 13 13 w (by omega) (by omega) rfl hx0 hx1
theorem turn_17 (x : Int) (w : World) (hx0 : 0 ≤ x) (hx1 : x < 4294967296) :
    Calls Tryd.prog 78 #[.int .u32 x, .int .i64 17] w fun e w' =>
      e = .returned (.int .u32 (rotr x 17)) ∧ Below w.heap.size w w' := turn_any x 17 17 w (by omega) (by omega) rfl hx0 hx1
theorem turn_18 (x : Int) (w : World) (hx0 : 0 ≤ x) (hx1 : x < 4294967296) :
    Calls Tryd.prog 78 #[.int .u32 x, .int .i64 18] w fun e w' =>
      e = .returned (.int .u32 (rotr x 18)) ∧ Below w.heap.size w w' := turn_any x 18 18 w (by omega) (by omega) rfl hx0 hx1
theorem turn_19 (x : Int) (w : World) (hx0 : 0 ≤ x) (hx1 : x < 4294967296) :
    Calls Tryd.prog 78 #[.int .u32 x, .int .i64 19] w fun e w' =>
      e = .returned (.int .u32 (rotr x 19)) ∧ Below w.heap.size w w' := turn_any x 19 19 w (by omega) (by omega) rfl hx0 hx1
theorem turn_22 (x : Int) (w : World) (hx0 : 0 ≤ x) (hx1 : x < 4294967296) :
    Calls Tryd.prog 78 #[.int .u32 x, .int .i64 22] w fun e w' =>
      e = .returned (.int .u32 (rotr x 22)) ∧ Below w.heap.size w w' := turn_any x 22 22 w (by omega) (by omega) rfl hx0 hx1
theorem turn_25 (x : Int) (w : World) (hx0 : 0 ≤ x) (hx1 : x < 4294967296) :
    Calls Tryd.prog 78 #[.int .u32 x, .int .i64 25] w fun e w' =>
      e = .returned (.int .u32 (rotr x 25)) ∧ Below w.heap.size w w' := turn_any x 25 25 w (by omega) (by omega) rfl hx0 hx1
theorem mix_any (x i j k : Int) (a b c : Nat) (w : World) (hi : i = a) (hj : j = b) (hk : k = c) (ha : 1 ≤ a ∧ a ≤ 31) (hb : 1 ≤ b ∧ b ≤ 31) (hc : 1 ≤ c ∧ c ≤ 31) (hx0 : 0 ≤ x) (hx1 : x < 4294967296) :
    Calls Tryd.prog 77 #[.int .u32 x, .int .i64 i, .int .i64 j, .int .i64 k] w fun e w' =>
      e = .returned (.int .u32 (mixF x a b c)) ∧ Below w.heap.size w w' := by
  subst hi hj hk
  obtain ⟨ha0, ha1⟩ := ha
  obtain ⟨hb0', hb1'⟩ := hb
  obtain ⟨hc0, hc1⟩ := hc
  have za : -31 ≤ -(a : Int) := by omega
  have zb : -31 ≤ -(b : Int) := by omega
  have zc : -31 ≤ -(c : Int) := by omega
  go_enter Tryd.func77, Tryd.ntmps77
  have hb0 := Below.refl w.heap.size w
  go_wp2_with fail
  with_reducible refine (rotl_any x (-(a : Int)) a _ ha0 ha1 rfl hx0 hx1).mono ?_
  rintro e w1 ⟨rfl, hc1⟩
  have hb1 : Below w.heap.size w w1 := bchain (by repeat' (first | with_reducible exact hb0 | with_reducible refine Below.drew ?_ | with_reducible refine below_drewN ?_ _ | with_reducible refine Below.alloc ?_ (by have := hb0.size; first | (simp; done) | (simp; omega) | omega) _ | with_reducible refine Below.setCell ?_ (by first | (simp; done) | (simp; omega) | omega) _)) hc1
  clear hc1 hb0
  go_wp2_with fail
  with_reducible refine (rotl_any x (-(b : Int)) b _ hb0' hb1' rfl hx0 hx1).mono ?_
  rintro e w2 ⟨rfl, hc2⟩
  have hb2 : Below w.heap.size w w2 := bchain (by repeat' (first | with_reducible exact hb1 | with_reducible refine Below.drew ?_ | with_reducible refine below_drewN ?_ _ | with_reducible refine Below.alloc ?_ (by have := hb1.size; first | (simp; done) | (simp; omega) | omega) _ | with_reducible refine Below.setCell ?_ (by first | (simp; done) | (simp; omega) | omega) _)) hc2
  clear hc2 hb1
  go_wp2_with fail
  with_reducible refine (rotl_any x (-(c : Int)) c _ hc0 hc1 rfl hx0 hx1).mono ?_
  rintro e w3 ⟨rfl, hc3⟩
  have hb3 : Below w.heap.size w w3 := bchain (by repeat' (first | with_reducible exact hb2 | with_reducible refine Below.drew ?_ | with_reducible refine below_drewN ?_ _ | with_reducible refine Below.alloc ?_ (by have := hb2.size; first | (simp; done) | (simp; omega) | omega) _ | with_reducible refine Below.setCell ?_ (by first | (simp; done) | (simp; omega) | omega) _)) hc3
  clear hc3 hb2
  go_wp2_with fail
  go_ret
  exact ⟨rfl, by repeat' (first | with_reducible exact hb3 | with_reducible refine Below.drew ?_ | with_reducible refine below_drewN ?_ _ | with_reducible refine Below.alloc ?_ (by have := hb3.size; first | (simp; done) | (simp; omega) | omega) _ | with_reducible refine Below.setCell ?_ (by first | (simp; done) | (simp; omega) | omega) _)⟩

end Go.Proofs.YtfabcdpmnbeflaaDoor
