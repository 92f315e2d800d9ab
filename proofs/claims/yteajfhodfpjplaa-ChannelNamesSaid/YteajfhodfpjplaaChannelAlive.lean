/- The chapter's examples on channels. -/
import Derived.Test.YteajfhodfpjplaaChannelRefs2
namespace Go.Proofs.Yteajfhodfpjplaa
set_option linter.unusedSimpArgs false
set_option linter.unusedVariables false
set_option linter.unnecessarySimpa false
open Go.RowKit

/-- A call has returned this channel and this error. -/
def Gave (w : World) (e : Ending) (D : Int) (ys : List Int) (dl : Bool) (er : Int) : Prop :=
  ∃ a c, e = .returned (.tuple #[.agg #[.int .i64 D, .slice a ys.length c, .bool dl], .int .i64 er]) ∧ CellsAt w a (ys.map (Value.int .u64))
def Gave4 (w : World) (e : Ending) (D : Int) (ys : List Int) (dl : Bool) (v : Int) (b : Bool) (er : Int) : Prop :=
  ∃ a c, e = .returned (.tuple #[.agg #[.int .i64 D, .slice a ys.length c, .bool dl], .int .u64 v, .bool b, .int .i64 er]) ∧ CellsAt w a (ys.map (Value.int .u64))
theorem gave_of {w : World} {e : Ending} {B : Nat} {r : ChS × Int} (h : ChRet B w e r) {D : Int} {ys : List Int} {dl : Bool} {er : Int} (hr : r = (⟨D, ys, dl⟩, er)) : Gave w e D ys dl er := by subst hr; obtain ⟨a, c, h1, h2, _⟩ := h; exact ⟨a, c, h1, h2⟩
theorem gave4_of {w : World} {e : Ending} {B : Nat} {r : ChS × Int × Bool × Int} (h : ChRet4 B w e r) {D : Int} {ys : List Int} {dl : Bool} {v : Int} {b : Bool} {er : Int} (hr : r = (⟨D, ys, dl⟩, v, b, er)) : Gave4 w e D ys dl v b er := by subst hr; obtain ⟨a, c, h1, h2, _⟩ := h; exact ⟨a, c, h1, h2⟩

theorem new_r (n : Int) (w : World) (D : Int) (ys : List Int) (dl : Bool) (er : Int) (hr : chNew n = (⟨D, ys, dl⟩, er)) :
    Calls Try.prog 9 #[.int .i64 n] w fun e w' =>
      Gave w' e D ys dl er ∧ Below w.heap.size w w' := (new_any n w).mono fun _ _ ⟨h, hb⟩ => ⟨gave_of h hr, hb⟩
theorem send_r (C : Int) (xs : List Int) (cl : Bool) (a : Option Addr) (n cp : Nat) (v : Int) (w : World) (hn : n = xs.length) (hc : CellsAt w a (xs.map (Value.int .u64))) (D : Int) (ys : List Int) (dl : Bool) (er : Int) (hr : chSend ⟨C, xs, cl⟩ v = (⟨D, ys, dl⟩, er)) :
    Calls Try.prog 11 #[.agg #[.int .i64 C, .slice a n cp, .bool cl], .int .u64 v] w fun e w' =>
      Gave w' e D ys dl er ∧ Below w.heap.size w w' := by subst hn; exact (send_any C xs cl a cp v w hc).mono fun _ _ ⟨h, hb⟩ => ⟨gave_of h hr, hb⟩
theorem close_r (C : Int) (xs : List Int) (cl : Bool) (a : Option Addr) (n cp : Nat) (w : World) (hn : n = xs.length) (hc : CellsAt w a (xs.map (Value.int .u64))) (D : Int) (ys : List Int) (dl : Bool) (er : Int) (hr : chClose ⟨C, xs, cl⟩ = (⟨D, ys, dl⟩, er)) :
    Calls Try.prog 16 #[.agg #[.int .i64 C, .slice a n cp, .bool cl]] w fun e w' =>
      Gave w' e D ys dl er ∧ Below w.heap.size w w' := by subst hn; exact (close_any C xs cl a cp w hc).mono fun _ _ ⟨h, hb⟩ => ⟨gave_of h hr, hb⟩
theorem recv_r (C : Int) (xs : List Int) (cl : Bool) (a : Option Addr) (n cp : Nat) (w : World) (hn : n = xs.length) (hc : CellsAt w a (xs.map (Value.int .u64))) (D : Int) (ys : List Int) (dl : Bool) (v : Int) (b : Bool) (er : Int) (hr : chRecv ⟨C, xs, cl⟩ = (⟨D, ys, dl⟩, v, b, er)) :
    Calls Try.prog 13 #[.agg #[.int .i64 C, .slice a n cp, .bool cl]] w fun e w' =>
      Gave4 w' e D ys dl v b er ∧ Below w.heap.size w w' := by subst hn; exact (recv_any C xs cl a cp w hc).mono fun _ _ ⟨h, hb⟩ => ⟨gave4_of h hr, hb⟩
theorem room_r (C : Int) (xs : List Int) (cl : Bool) (a : Option Addr) (n cp : Nat) (w : World) (hn : n = xs.length) (r er : Int) (hr : chRoom ⟨C, xs, cl⟩ = (r, er)) :
    Calls Try.prog 18 #[.agg #[.int .i64 C, .slice a n cp, .bool cl]] w fun e w' =>
      e = .returned (.tuple #[.int .i64 r, .int .i64 er]) ∧ Below w.heap.size w w' := by subst hn; have := room_any C xs cl a cp w; rw [hr] at this; exact this

/-- As send_r, recv_r; and that what is returned lies in new memory. -/
def GaveF (B : Nat) (w : World) (e : Ending) (D : Int) (ys : List Int) (dl : Bool) (er : Int) : Prop :=
  ∃ a c, e = .returned (.tuple #[.agg #[.int .i64 D, .slice a ys.length c, .bool dl], .int .i64 er]) ∧ CellsAt w a (ys.map (Value.int .u64)) ∧ ∀ ad, a = some ad → B ≤ ad.block
def GaveF4 (B : Nat) (w : World) (e : Ending) (D : Int) (ys : List Int) (dl : Bool) (v : Int) (b : Bool) (er : Int) : Prop :=
  ∃ a c, e = .returned (.tuple #[.agg #[.int .i64 D, .slice a ys.length c, .bool dl], .int .u64 v, .bool b, .int .i64 er]) ∧ CellsAt w a (ys.map (Value.int .u64)) ∧ ∀ ad, a = some ad → B ≤ ad.block
theorem send_f (C : Int) (xs : List Int) (cl : Bool) (a : Option Addr) (n cp : Nat) (v : Int) (w : World) (hn : n = xs.length) (hc : CellsAt w a (xs.map (Value.int .u64))) (D : Int) (ys : List Int) (dl : Bool) (er : Int) (hr : chSend ⟨C, xs, cl⟩ v = (⟨D, ys, dl⟩, er)) :
    Calls Try.prog 11 #[.agg #[.int .i64 C, .slice a n cp, .bool cl], .int .u64 v] w fun e w' =>
      GaveF w.heap.size w' e D ys dl er ∧ Below w.heap.size w w' := by subst hn; exact (send_any C xs cl a cp v w hc).mono fun _ _ ⟨h, hb⟩ => ⟨by rw [hr] at h; exact h, hb⟩
theorem recv_f (C : Int) (xs : List Int) (cl : Bool) (a : Option Addr) (n cp : Nat) (w : World) (hn : n = xs.length) (hc : CellsAt w a (xs.map (Value.int .u64))) (D : Int) (ys : List Int) (dl : Bool) (v : Int) (b : Bool) (er : Int) (hr : chRecv ⟨C, xs, cl⟩ = (⟨D, ys, dl⟩, v, b, er)) :
    Calls Try.prog 13 #[.agg #[.int .i64 C, .slice a n cp, .bool cl]] w fun e w' =>
      GaveF4 w.heap.size w' e D ys dl v b er ∧ Below w.heap.size w w' := by subst hn; exact (recv_any C xs cl a cp w hc).mono fun _ _ ⟨h, hb⟩ => ⟨by rw [hr] at h; exact h, hb⟩
theorem close_f (C : Int) (xs : List Int) (cl : Bool) (a : Option Addr) (n cp : Nat) (w : World) (hn : n = xs.length) (hc : CellsAt w a (xs.map (Value.int .u64))) (D : Int) (ys : List Int) (dl : Bool) (er : Int) (hr : chClose ⟨C, xs, cl⟩ = (⟨D, ys, dl⟩, er)) :
    Calls Try.prog 16 #[.agg #[.int .i64 C, .slice a n cp, .bool cl]] w fun e w' =>
      GaveF w.heap.size w' e D ys dl er ∧ Below w.heap.size w w' := by subst hn; exact (close_any C xs cl a cp w hc).mono fun _ _ ⟨h, hb⟩ => ⟨by rw [hr] at h; exact h, hb⟩

set_option maxRecDepth 100000 in
set_option maxHeartbeats 2000000 in
theorem alive_any (w : World) :
    Calls Try.prog 22 #[] w fun e w' =>
      e = .returned (.bool true) ∧ Below w.heap.size w w' := by
  go_enter Try.func22, Try.ntmps22
  have hb0 := Below.refl w.heap.size w
  go_wp2_with fail
  refine (new_r 2 _ 2 [] false 0 rfl).mono ?_
  rintro e w1 ⟨⟨a1, c1, rfl, k1⟩, hc1⟩
  have hb1 : Below w.heap.size w w1 := bchain (by repeat' (first | exact hb0 | refine Below.drew ?_ | refine Below.alloc ?_ (by have := hb0.size; first | (simp; done) | (simp; omega) | omega) _ | refine Below.setCell ?_ (by first | (simp; done) | (simp; omega) | omega) _)) hc1
  clear hc1 hb0
  go_wp2_with fail
  refine (send_r 2 [] false a1 _ c1 7 _ rfl (by repeat' (first | with_reducible exact k1 | with_reducible refine CellsAt.setFar ?_ ?_ _ | with_reducible refine CellsAt.alloc ?_ _ | with_reducible refine CellsAt.drew ?_ | assumption | (simp; omega) | omega)) 2 [7] false 0 rfl).mono ?_
  rintro e w2 ⟨⟨a2, c2, rfl, k2⟩, hc2⟩
  have hb2 : Below w.heap.size w w2 := bchain (by repeat' (first | exact hb1 | refine Below.drew ?_ | refine Below.alloc ?_ (by have := hb1.size; first | (simp; done) | (simp; omega) | omega) _ | refine Below.setCell ?_ (by first | (simp; done) | (simp; omega) | omega) _)) hc2
  clear hc2 hb1
  go_wp2_with fail
  refine (send_r 2 [7] false a2 _ c2 8 _ rfl (by repeat' (first | with_reducible exact k2 | with_reducible refine CellsAt.setFar ?_ ?_ _ | with_reducible refine CellsAt.alloc ?_ _ | with_reducible refine CellsAt.drew ?_ | assumption | (simp; omega) | omega)) 2 [7, 8] false 0 rfl).mono ?_
  rintro e w3 ⟨⟨a3, c3, rfl, k3⟩, hc3⟩
  have hb3 : Below w.heap.size w w3 := bchain (by repeat' (first | exact hb2 | refine Below.drew ?_ | refine Below.alloc ?_ (by have := hb2.size; first | (simp; done) | (simp; omega) | omega) _ | refine Below.setCell ?_ (by first | (simp; done) | (simp; omega) | omega) _)) hc3
  clear hc3 hb2
  go_wp2_with fail
  refine (send_r 2 [7, 8] false a3 _ c3 9 _ rfl (by repeat' (first | with_reducible exact k3 | with_reducible refine CellsAt.setFar ?_ ?_ _ | with_reducible refine CellsAt.alloc ?_ _ | with_reducible refine CellsAt.drew ?_ | assumption | (simp; omega) | omega)) 0 [] false 38 rfl).mono ?_
  rintro e w4 ⟨⟨a4, c4, rfl, k4⟩, hc4⟩
  have hb4 : Below w.heap.size w w4 := bchain (by repeat' (first | exact hb3 | refine Below.drew ?_ | refine Below.alloc ?_ (by have := hb3.size; first | (simp; done) | (simp; omega) | omega) _ | refine Below.setCell ?_ (by first | (simp; done) | (simp; omega) | omega) _)) hc4
  have hst4 : Below w3.heap.size w3 w4 := bchain (by repeat' (first | exact Below.refl _ _ | refine Below.drew ?_ | refine Below.alloc ?_ (by simp) _ | refine Below.alloc ?_ (by simp; omega) _ | refine Below.setCell ?_ (by first | (simp; done) | (simp; omega) | omega) _)) hc4
  have B_0 : w4.cell? ⟨w3.heap.size, 0, none⟩ = some (.int .i64 2) := (hc4.cell (p := ⟨w3.heap.size, 0, none⟩) (by first | (simp; done) | (simp; omega))).trans (by simp)
  have B_1 : w4.cell? ⟨w3.heap.size, 1, none⟩ = some (.slice a3 2 c3) := (hc4.cell (p := ⟨w3.heap.size, 1, none⟩) (by first | (simp; done) | (simp; omega))).trans (by simp)
  have B_2 : w4.cell? ⟨w3.heap.size, 2, none⟩ = some (.bool false) := (hc4.cell (p := ⟨w3.heap.size, 2, none⟩) (by first | (simp; done) | (simp; omega))).trans (by simp)
  have B_l : w3.heap.size < w4.heap.size := Nat.lt_of_lt_of_le (by first | (simp; done) | (simp; omega)) hc4.size
  replace k3 := k3.later hst4
  clear hst4
  clear hc4 hb3
  go_wp2_with fail
  refine (recv_r 2 [7, 8] false a3 _ c3 _ rfl (by repeat' (first | with_reducible exact k3 | with_reducible refine CellsAt.setFar ?_ ?_ _ | with_reducible refine CellsAt.alloc ?_ _ | with_reducible refine CellsAt.drew ?_ | assumption | (simp; omega) | omega)) 2 [8] false 7 true 0 rfl).mono ?_
  rintro e w5 ⟨⟨a5, c5, rfl, k5⟩, hc5⟩
  have hb5 : Below w.heap.size w w5 := bchain (by repeat' (first | exact hb4 | refine Below.drew ?_ | refine Below.alloc ?_ (by have := hb4.size; first | (simp; done) | (simp; omega) | omega) _ | refine Below.setCell ?_ (by first | (simp; done) | (simp; omega) | omega) _)) hc5
  have hst5 : Below w4.heap.size w4 w5 := bchain (by repeat' (first | exact Below.refl _ _ | refine Below.drew ?_ | refine Below.alloc ?_ (by simp) _ | refine Below.alloc ?_ (by simp; omega) _ | refine Below.setCell ?_ (by first | (simp; done) | (simp; omega) | omega) _)) hc5
  replace B_0 := cell_later hst5 B_0
  replace B_1 := cell_later hst5 B_1
  replace B_2 := cell_later hst5 B_2
  replace B_l := Nat.lt_of_lt_of_le B_l hst5.size
  replace k3 := k3.later hst5
  clear hst5
  clear hc5 hb4
  clear B_0 B_1 B_2 B_l
  clear k3
  go_wp2_with fail
  refine (send_r 2 [8] false a5 _ c5 9 _ rfl (by repeat' (first | with_reducible exact k5 | with_reducible refine CellsAt.setFar ?_ ?_ _ | with_reducible refine CellsAt.alloc ?_ _ | with_reducible refine CellsAt.drew ?_ | assumption | (simp; omega) | omega)) 2 [8, 9] false 0 rfl).mono ?_
  rintro e w6 ⟨⟨a6, c6, rfl, k6⟩, hc6⟩
  have hb6 : Below w.heap.size w w6 := bchain (by repeat' (first | exact hb5 | refine Below.drew ?_ | refine Below.alloc ?_ (by have := hb5.size; first | (simp; done) | (simp; omega) | omega) _ | refine Below.setCell ?_ (by first | (simp; done) | (simp; omega) | omega) _)) hc6
  clear hc6 hb5
  go_wp2_with fail
  refine (close_r 2 [8, 9] false a6 _ c6 _ rfl (by repeat' (first | with_reducible exact k6 | with_reducible refine CellsAt.setFar ?_ ?_ _ | with_reducible refine CellsAt.alloc ?_ _ | with_reducible refine CellsAt.drew ?_ | assumption | (simp; omega) | omega)) 2 [8, 9] true 0 rfl).mono ?_
  rintro e w7 ⟨⟨a7, c7, rfl, k7⟩, hc7⟩
  have hb7 : Below w.heap.size w w7 := bchain (by repeat' (first | exact hb6 | refine Below.drew ?_ | refine Below.alloc ?_ (by have := hb6.size; first | (simp; done) | (simp; omega) | omega) _ | refine Below.setCell ?_ (by first | (simp; done) | (simp; omega) | omega) _)) hc7
  clear hc7 hb6
  go_wp2_with fail
  refine (recv_r 2 [8, 9] true a7 _ c7 _ rfl (by repeat' (first | with_reducible exact k7 | with_reducible refine CellsAt.setFar ?_ ?_ _ | with_reducible refine CellsAt.alloc ?_ _ | with_reducible refine CellsAt.drew ?_ | assumption | (simp; omega) | omega)) 2 [9] true 8 true 0 rfl).mono ?_
  rintro e w8 ⟨⟨a8, c8, rfl, k8⟩, hc8⟩
  have hb8 : Below w.heap.size w w8 := bchain (by repeat' (first | exact hb7 | refine Below.drew ?_ | refine Below.alloc ?_ (by have := hb7.size; first | (simp; done) | (simp; omega) | omega) _ | refine Below.setCell ?_ (by first | (simp; done) | (simp; omega) | omega) _)) hc8
  clear hc8 hb7
  go_wp2_with fail
  refine (recv_r 2 [9] true a8 _ c8 _ rfl (by repeat' (first | with_reducible exact k8 | with_reducible refine CellsAt.setFar ?_ ?_ _ | with_reducible refine CellsAt.alloc ?_ _ | with_reducible refine CellsAt.drew ?_ | assumption | (simp; omega) | omega)) 2 [] true 9 true 0 rfl).mono ?_
  rintro e w9 ⟨⟨a9, c9, rfl, k9⟩, hc9⟩
  have hb9 : Below w.heap.size w w9 := bchain (by repeat' (first | exact hb8 | refine Below.drew ?_ | refine Below.alloc ?_ (by have := hb8.size; first | (simp; done) | (simp; omega) | omega) _ | refine Below.setCell ?_ (by first | (simp; done) | (simp; omega) | omega) _)) hc9
  clear hc9 hb8
  go_wp2_with fail
  refine (recv_r 2 [] true a9 _ c9 _ rfl (by repeat' (first | with_reducible exact k9 | with_reducible refine CellsAt.setFar ?_ ?_ _ | with_reducible refine CellsAt.alloc ?_ _ | with_reducible refine CellsAt.drew ?_ | assumption | (simp; omega) | omega)) 2 [] true 0 false 0 rfl).mono ?_
  rintro e w10 ⟨⟨a10, c10, rfl, k10⟩, hc10⟩
  have hb10 : Below w.heap.size w w10 := bchain (by repeat' (first | exact hb9 | refine Below.drew ?_ | refine Below.alloc ?_ (by have := hb9.size; first | (simp; done) | (simp; omega) | omega) _ | refine Below.setCell ?_ (by first | (simp; done) | (simp; omega) | omega) _)) hc10
  clear hc10 hb9
  go_wp2_with fail
  refine (recv_r 2 [] true a10 _ c10 _ rfl (by repeat' (first | with_reducible exact k10 | with_reducible refine CellsAt.setFar ?_ ?_ _ | with_reducible refine CellsAt.alloc ?_ _ | with_reducible refine CellsAt.drew ?_ | assumption | (simp; omega) | omega)) 2 [] true 0 false 0 rfl).mono ?_
  rintro e w11 ⟨⟨a11, c11, rfl, k11⟩, hc11⟩
  have hb11 : Below w.heap.size w w11 := bchain (by repeat' (first | exact hb10 | refine Below.drew ?_ | refine Below.alloc ?_ (by have := hb10.size; first | (simp; done) | (simp; omega) | omega) _ | refine Below.setCell ?_ (by first | (simp; done) | (simp; omega) | omega) _)) hc11
  have hst11 : Below w10.heap.size w10 w11 := bchain (by repeat' (first | exact Below.refl _ _ | refine Below.drew ?_ | refine Below.alloc ?_ (by simp) _ | refine Below.alloc ?_ (by simp; omega) _ | refine Below.setCell ?_ (by first | (simp; done) | (simp; omega) | omega) _)) hc11
  have U_0 : w11.cell? ⟨w10.heap.size, 0, none⟩ = some (.int .i64 2) := (hc11.cell (p := ⟨w10.heap.size, 0, none⟩) (by first | (simp; done) | (simp; omega))).trans (by simp)
  have U_1 : w11.cell? ⟨w10.heap.size, 1, none⟩ = some (.slice a10 0 c10) := (hc11.cell (p := ⟨w10.heap.size, 1, none⟩) (by first | (simp; done) | (simp; omega))).trans (by simp)
  have U_2 : w11.cell? ⟨w10.heap.size, 2, none⟩ = some (.bool true) := (hc11.cell (p := ⟨w10.heap.size, 2, none⟩) (by first | (simp; done) | (simp; omega))).trans (by simp)
  have U_l : w10.heap.size < w11.heap.size := Nat.lt_of_lt_of_le (by first | (simp; done) | (simp; omega)) hc11.size
  replace k10 := k10.later hst11
  clear hst11
  clear hc11 hb10
  go_wp2_with fail
  refine (send_r 2 [] true a10 _ c10 1 _ rfl (by repeat' (first | with_reducible exact k10 | with_reducible refine CellsAt.setFar ?_ ?_ _ | with_reducible refine CellsAt.alloc ?_ _ | with_reducible refine CellsAt.drew ?_ | assumption | (simp; omega) | omega)) 0 [] false 36 rfl).mono ?_
  rintro e w12 ⟨⟨a12, c12, rfl, k12⟩, hc12⟩
  have hb12 : Below w.heap.size w w12 := bchain (by repeat' (first | exact hb11 | refine Below.drew ?_ | refine Below.alloc ?_ (by have := hb11.size; first | (simp; done) | (simp; omega) | omega) _ | refine Below.setCell ?_ (by first | (simp; done) | (simp; omega) | omega) _)) hc12
  have hst12 : Below w11.heap.size w11 w12 := bchain (by repeat' (first | exact Below.refl _ _ | refine Below.drew ?_ | refine Below.alloc ?_ (by simp) _ | refine Below.alloc ?_ (by simp; omega) _ | refine Below.setCell ?_ (by first | (simp; done) | (simp; omega) | omega) _)) hc12
  replace U_0 := cell_later hst12 U_0
  replace U_1 := cell_later hst12 U_1
  replace U_2 := cell_later hst12 U_2
  replace U_l := Nat.lt_of_lt_of_le U_l hst12.size
  replace k10 := k10.later hst12
  clear hst12
  clear hc12 hb11
  go_wp2_with fail
  go_ret
  exact ⟨rfl, by repeat' (first | exact hb12 | refine Below.drew ?_ | refine Below.alloc ?_ (by have := hb12.size; first | (simp; done) | (simp; omega) | omega) _ | refine Below.setCell ?_ (by first | (simp; done) | (simp; omega) | omega) _)⟩

end Go.Proofs.Yteajfhodfpjplaa
