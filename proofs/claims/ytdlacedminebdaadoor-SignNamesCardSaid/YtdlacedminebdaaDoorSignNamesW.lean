/- The law SignNames returns true. -/
import Derived.Test.YtdlacedminebdaaDoorSignMore
import Derived.Test.YtdlacedminebdaaDoorRegMore
import Derived.Test.YtdlacedminebdaaDoorFastLex
namespace Go.Proofs.YtdlacedminebdaaDoor
set_option linter.unusedSimpArgs false
set_option linter.unusedVariables false
set_option linter.unnecessarySimpa false
open Go.RowKit

def zeroB (n : Nat) : List Int := List.replicate n 0
theorem zeroB_len (n : Nat) : (zeroB n).length = n := by simp [zeroB]
theorem zeroB_b8 (n : Nat) : Bytes8 (zeroB n) := fun x hx => by rw [List.eq_of_mem_replicate hx]; omega
section
variable {P : Program}
theorem wpList_make1 {ops : Array Oper} {rest : List Oper} {o : Oper} {a : Act} {w : World} {Q : Exit → Act → World → Prop} (hgd : o.guard = none) (t : TypeId) (x y : Operand) (ho : o.op = .makeSlice t x y) (n : Nat) (hx : a.eval x = .int .i64 n) (hy : a.eval y = .int .i64 n)
    (e : TypeId) (i : TypeInfo) (z : Value) (ht : P.underlying t = some (.slice e)) (hi : P.info? e = some i) (hz : i.zero = some z) (hs : i.size = 1) (hb : i.bytes * n ≤ 281474976710656) (hc : n ≤ 9223372036854775807) (hzc : z.cells = #[z])
    (hK : ∀ b w', Below w.heap.size w w' → CellsAt w' (some ⟨b, 0, none⟩) (List.replicate n z) → wpList P ops Q rest (a.put o.dst (.slice (some ⟨b, 0, none⟩) n n)) w') : wpList P ops Q (o :: rest) a w := by
  have hb' : (i.bytes : Int) * (n : Int) ≤ 281474976710656 := by
    have h : ((i.bytes * n : Nat) : Int) ≤ 281474976710656 := by omega
    rwa [Int.natCast_mul] at h
  have hr := run_make (P := P) w t e i z ht hi hz .i64 .i64 n n (by omega) (by omega) hb' (by omega)
  simp only [Int.toNat_natCast] at hr
  rw [hs, Nat.mul_one, hzc, madeCells_one] at hr
  refine wpList_plain hgd fun K hK' => ?_
  unfold Oper.wp
  simp only [execOp, ho, hx, hy, Sem.run_bind, hr, Result.andThen_ok, Sem.run_pure]
  exact hK' _ _ (hK w.heap.size _ ((Below.refl _ _).alloc (Nat.le_refl _) _) (row_cells w _ e (0, 0) _ rfl _ rfl))
end
theorem wpQuiet_build {P : Program} {ops : Array Oper} {Q : Act → Prop} {a : Act} {o : Oper} {rest : List Oper} {C : World → Prop} (hw : Region.wanted o (yielded ops a.tmps) = true) (ty : TypeId) (parts : Array (Nat × Operand)) (ho : o.op = .build ty parts)
    (vals : Array (Nat × Value)) (hp : parts.map (fun (i, x) => (i, a.eval x)) = vals) (v : Value) (hr : ∀ w, (Instr.build ty vals).run P w = .ok v w)
    (hK : wpQuiet P ops C Q rest (a.put o.dst v)) : wpQuiet P ops C Q (o :: rest) a :=
  wpQuiet_step fun K hK' => by
    rw [if_pos hw]
    refine ⟨v, fun w _ => ?_, hK' _ hK⟩
    unfold Oper.quietAt
    simp only [execOp, ho, hp]
    simp [hr, Oper.quietUpon]
theorem run_sig1 (w : World) : (Instr.build 25 #[(0, .int .u32 4294967295)]).run Tryd.prog w = .ok (.agg #[.int .u32 4294967295, .int .u32 0]) w := by first | kernel_rfl | rfl
theorem run_sig2 (w : World) : (Instr.build 25 #[(1, .int .u32 500000003)]).run Tryd.prog w = .ok (.agg #[.int .u32 0, .int .u32 500000003]) w := by first | kernel_rfl | rfl
theorem pub_last : pubK 500000002 = 250000002 := inv_4
theorem nilMsg (W : World) : MsgIn W none 0 [] := ⟨rfl, .inl rfl, fun _ h => by cases h⟩

set_option maxRecDepth 100000 in
set_option maxHeartbeats 8000000 in
theorem names_walk (w : World) (hT : TabK w) :
    Calls Tryd.prog 5 #[] w fun e w' =>
      e = .returned (.bool true) ∧ Below w.heap.size w w' := by
  obtain ⟨i0, hi, hz0, hz1, hz2⟩ := info_parts info_u8
  obtain ⟨z1, hzz⟩ : ∃ z1, zeroB 9991 = z1 := ⟨_, rfl⟩
  have zl : 9991 = z1.length := by rw [← hzz, zeroB_len]
  have zb : Bytes8 z1 := by rw [← hzz]; exact zeroB_b8 _
  obtain ⟨E1, hE1⟩ : ∃ E, sgE 500000002 [] = E := ⟨_, rfl⟩
  obtain ⟨S1, hS1⟩ : ∃ S, sgS 500000002 [] = S := ⟨_, rfl⟩
  obtain ⟨E2, hE2⟩ : ∃ E, sgE 1 z1 = E := ⟨_, rfl⟩
  obtain ⟨S2, hS2⟩ : ∃ S, sgS 1 z1 = S := ⟨_, rfl⟩
  obtain ⟨C, hC⟩ : ∃ C, chaP 0 4294967295 z1 = C := ⟨_, rfl⟩
  have v1 : verZ 250000002 E1 S1 [] = 0 := by rw [← pub_last, ← hE1, ← hS1]; exact verZ_sign (by omega) (by omega) [] (by simp)
  have v2 : verZ 4 E2 S2 z1 = 0 := by rw [← pub_1, ← hE2, ← hS2]; exact verZ_sign (by omega) (by omega) z1 (by omega)
  have rE1 := sgE_rng 500000002 []
  have rS1 := sgS_rng 500000002 []
  have rE2 := sgE_rng 1 z1
  have rS2 := sgS_rng 1 z1
  rw [hE1] at rE1; rw [hS1] at rS1; rw [hE2] at rE2; rw [hS2] at rS2
  have q1 : ∀ W, Calls Tryd.prog 12 #[.int .u32 0] W fun e w' => e = .returned (.tuple #[.int .u32 0, .int .i64 2]) ∧ Below W.heap.size W w' := fun W => public_no 0 W (by omega) (by omega) (.inl rfl)
  have q2 : ∀ W, Calls Tryd.prog 12 #[.int .u32 4294967295] W fun e w' => e = .returned (.tuple #[.int .u32 0, .int .i64 2]) ∧ Below W.heap.size W w' := fun W => public_no _ W (by omega) (by omega) (.inr (by omega))
  have q3 : ∀ W, Calls Tryd.prog 12 #[.int .u32 500000002] W fun e w' => e = .returned (.tuple #[.int .u32 250000002, .int .i64 0]) ∧ Below W.heap.size W w' := fun W => pub_last ▸ public_ok 500000002 W (by omega) (by omega)
  have q4 : ∀ W a c, Calls Tryd.prog 14 #[.int .u32 0, .slice a 9992 c] W fun e w' => e = .returned (.tuple #[.int .u32 0, .int .i64 2]) ∧ Below W.heap.size W w' := fun W a c => nonce_no 0 a 9992 c W (by omega) (by omega) (.inl rfl)
  have q5 : ∀ W a c, Calls Tryd.prog 14 #[.int .u32 1, .slice a 9992 c] W fun e w' => e = .returned (.tuple #[.int .u32 0, .int .i64 4]) ∧ Below W.heap.size W w' := fun W a c => nonce_many 1 a 9992 c W (by omega) (by omega) (by omega) (by omega)
  have q6 : ∀ W a c, Calls Tryd.prog 16 #[.int .u32 0, .int .u32 4294967295, .slice a 9992 c] W fun e w' => e = .returned (.tuple #[.int .u32 0, .int .i64 4]) ∧ Below W.heap.size W w' := fun W a c => challenge_many 0 _ a 9992 c W (by omega) (by omega)
  have q7 : ∀ W a c, MsgIn W a 9991 z1 → TabK W → Calls Tryd.prog 16 #[.int .u32 0, .int .u32 4294967295, .slice a 9991 c] W fun e w' => e = .returned (.tuple #[.int .u32 C, .int .i64 0]) ∧ Below W.heap.size W w' := fun W a c h3 h4 => by have := challenge_ok 0 4294967295 z1 a 9991 c W (by omega) (by omega) (by omega) (by omega) h3 (by omega) h4; rw [hC] at this; exact this
  have q8 : ∀ W a c, Calls Tryd.prog 18 #[.int .u32 500000003, .slice a 9992 c] W fun e w' => e = .returned (.tuple #[.agg #[.int .u32 0, .int .u32 0], .int .i64 2]) ∧ Below W.heap.size W w' := fun W a c => sign_no _ a 9992 c W (by omega) (by omega) (.inr (by omega))
  have q9 : ∀ W a c, Calls Tryd.prog 18 #[.int .u32 1, .slice a 9992 c] W fun e w' => e = .returned (.tuple #[.agg #[.int .u32 0, .int .u32 0], .int .i64 4]) ∧ Below W.heap.size W w' := fun W a c => sign_many 1 a 9992 c W (by omega) (by omega) (by omega) (by omega)
  have q10 : ∀ W, TabK W → Calls Tryd.prog 18 #[.int .u32 500000002, .slice none 0 0] W fun e w' => e = .returned (.tuple #[.agg #[.int .u32 E1, .int .u32 S1], .int .i64 0]) ∧ Below W.heap.size W w' := fun W h4 => by have := sign_ok 500000002 [] none 0 0 W (by omega) (by omega) (nilMsg W) (by omega) h4; rw [hE1, hS1] at this; exact this
  have q11 : ∀ W a c, MsgIn W a 9991 z1 → TabK W → Calls Tryd.prog 18 #[.int .u32 1, .slice a 9991 c] W fun e w' => e = .returned (.tuple #[.agg #[.int .u32 E2, .int .u32 S2], .int .i64 0]) ∧ Below W.heap.size W w' := fun W a c h3 h4 => by have := sign_ok 1 z1 a 9991 c W (by omega) (by omega) h3 (by omega) h4; rw [hE2, hS2] at this; exact this
  have q12 : ∀ W, TabK W → Calls Tryd.prog 10 #[.int .u32 250000002, .slice none 0 0, .agg #[.int .u32 E1, .int .u32 S1]] W fun e w' => e = .returned (.int .i64 0) ∧ Below W.heap.size W w' := fun W h4 => by have := verify_all 250000002 E1 S1 [] none 0 0 W (by omega) (by omega) rE1.1 rS1.1 (nilMsg W) h4; rw [v1] at this; exact this
  have q13 : ∀ W a c, MsgIn W a 9991 z1 → TabK W → Calls Tryd.prog 10 #[.int .u32 4, .slice a 9991 c, .agg #[.int .u32 E2, .int .u32 S2]] W fun e w' => e = .returned (.int .i64 0) ∧ Below W.heap.size W w' := fun W a c h3 h4 => by have := verify_all 4 E2 S2 z1 a 9991 c W (by omega) (by omega) rE2.1 rS2.1 h3 h4; rw [v2] at this; exact this
  have q14 : ∀ W a c, Calls Tryd.prog 10 #[.int .u32 4, .slice a 9992 c, .agg #[.int .u32 E2, .int .u32 S2]] W fun e w' => e = .returned (.int .i64 4) ∧ Below W.heap.size W w' := fun W a c => verify_many 4 E2 S2 a 9992 c W (by omega) (by omega) is_4 (by omega)
  have q15 : ∀ W a c, Calls Tryd.prog 10 #[.int .u32 5, .slice a 9992 c, .agg #[.int .u32 E2, .int .u32 S2]] W fun e w' => e = .returned (.int .i64 2) ∧ Below W.heap.size W w' := fun W a c => verify_no 5 E2 S2 a 9992 c W (by omega) (by omega) is_5
  have q16 : ∀ W, Calls Tryd.prog 10 #[.int .u32 0, .slice none 0 0, .agg #[.int .u32 E1, .int .u32 S1]] W fun e w' => e = .returned (.int .i64 2) ∧ Below W.heap.size W w' := fun W => verify_no 0 E1 S1 none 0 0 W (by omega) (by omega) isB_0
  have q17 : ∀ W, Calls Tryd.prog 10 #[.int .u32 4, .slice none 0 0, .agg #[.int .u32 4294967295, .int .u32 0]] W fun e w' => e = .returned (.int .i64 22) ∧ Below W.heap.size W w' := fun W => verify_big 4 _ _ none 0 0 W (by omega) (by omega) is_4 (by omega) (by omega) (by omega) (.inl (by omega))
  have q18 : ∀ W, Calls Tryd.prog 10 #[.int .u32 4, .slice none 0 0, .agg #[.int .u32 0, .int .u32 500000003]] W fun e w' => e = .returned (.int .i64 22) ∧ Below W.heap.size W w' := fun W => verify_big 4 _ _ none 0 0 W (by omega) (by omega) is_4 (by omega) (by omega) (by omega) (.inr (by omega))
  have q19 : ∀ W, Calls Tryd.prog 20 #[.int .u32 1] W fun e w' => e = .returned (.int .i64 0) ∧ Below W.heap.size W w' := fun W => (check_ok 1 W (by omega) (by omega)).mono fun _ _ h => ⟨h.1, h.2 ▸ Below.refl _ _⟩
  have q20 : ∀ W, Calls Tryd.prog 20 #[.int .u32 500000002] W fun e w' => e = .returned (.int .i64 0) ∧ Below W.heap.size W w' := fun W => (check_ok 500000002 W (by omega) (by omega)).mono fun _ _ h => ⟨h.1, h.2 ▸ Below.refl _ _⟩
  have wf : ∀ W, Below w.heap.size w W → TabK W := fun W h => hT.later h
  have H_hzz := Box.mk hzz
  have H_zl := Box.mk zl
  have H_zb := Box.mk zb
  have H_hE1 := Box.mk hE1
  have H_hS1 := Box.mk hS1
  have H_hE2 := Box.mk hE2
  have H_hS2 := Box.mk hS2
  have H_hC := Box.mk hC
  have H_v1 := Box.mk v1
  have H_v2 := Box.mk v2
  have H_rE1 := Box.mk rE1
  have H_rS1 := Box.mk rS1
  have H_rE2 := Box.mk rE2
  have H_rS2 := Box.mk rS2
  have H_q1 := Box.mk q1
  have H_q2 := Box.mk q2
  have H_q3 := Box.mk q3
  have H_q4 := Box.mk q4
  have H_q5 := Box.mk q5
  have H_q6 := Box.mk q6
  have H_q7 := Box.mk q7
  have H_q8 := Box.mk q8
  have H_q9 := Box.mk q9
  have H_q10 := Box.mk q10
  have H_q11 := Box.mk q11
  have H_q12 := Box.mk q12
  have H_q13 := Box.mk q13
  have H_q14 := Box.mk q14
  have H_q15 := Box.mk q15
  have H_q16 := Box.mk q16
  have H_q17 := Box.mk q17
  have H_q18 := Box.mk q18
  have H_q19 := Box.mk q19
  have H_q20 := Box.mk q20
  have H_wf := Box.mk wf
  have H_hT := Box.mk hT
  clear hzz zl zb hE1 hS1 hE2 hS2 hC v1 v2 rE1 rS1 rE2 rS2 q1 q2 q3 q4 q5 q6 q7 q8 q9 q10 q11 q12 q13 q14 q15 q16 q17 q18 q19 q20 wf hT
  go_enter Tryd.func5, Tryd.ntmps5
  have hb0 := Below.refl w.heap.size w
  go_wp2_with (refine wpList_make1 rfl 23 _ _ rfl 9992 (by rfl) (by rfl) 5 i0 (.int .u8 0) Tryd.underlying23 hi hz0 hz1 (by rw [hz2]; omega) (by omega) rfl ?_; intro b1 w1 hc1 k1)
  have k2 : CellsAt w1 (some ⟨b1, 0, none⟩) (z1.map (Value.int .u8)) := by
    have := k1.takeK 9991
    rw [← H_hzz.out, zeroB, List.map_replicate]
    rw [List.take_replicate] at this
    exact this
  clear k1
  have hb1 : Below w.heap.size w w1 := bchain (by repeat' (first | with_reducible exact hb0 | with_reducible refine Below.drew ?_ | with_reducible refine below_drewN ?_ _ | with_reducible refine Below.alloc ?_ (by have := hb0.size; first | (simp; done) | (simp; omega) | omega) _ | with_reducible refine Below.setCell ?_ (by first | (simp; done) | (simp; omega) | omega) _)) hc1
  clear hc1
  go_wp2_with fail
  with_reducible refine (H_q1.out _).mono ?_
  rintro e w2 ⟨rfl, hc2⟩
  have hb2 : Below w.heap.size w w2 := bchain (by repeat' (first | with_reducible exact hb1 | with_reducible refine Below.drew ?_ | with_reducible refine below_drewN ?_ _ | with_reducible refine Below.alloc ?_ (by have := hb1.size; first | (simp; done) | (simp; omega) | omega) _ | with_reducible refine Below.setCell ?_ (by first | (simp; done) | (simp; omega) | omega) _)) hc2
  have hst2 : Below w1.heap.size w1 w2 := bchain (by repeat' (first | with_reducible exact Below.refl _ _ | with_reducible refine Below.drew ?_ | with_reducible refine below_drewN ?_ _ | with_reducible refine Below.alloc ?_ (by first | (simp; done) | (simp; omega) | omega) _ | with_reducible refine Below.setCell ?_ (by first | (simp; done) | (simp; omega) | omega) _)) hc2
  replace k2 := k2.later hst2
  clear hst2
  clear hc2 hb1
  go_wp2_with fail
  with_reducible refine (H_q2.out _).mono ?_
  rintro e w3 ⟨rfl, hc3⟩
  have hb3 : Below w.heap.size w w3 := bchain (by repeat' (first | with_reducible exact hb2 | with_reducible refine Below.drew ?_ | with_reducible refine below_drewN ?_ _ | with_reducible refine Below.alloc ?_ (by have := hb2.size; first | (simp; done) | (simp; omega) | omega) _ | with_reducible refine Below.setCell ?_ (by first | (simp; done) | (simp; omega) | omega) _)) hc3
  have hst3 : Below w2.heap.size w2 w3 := bchain (by repeat' (first | with_reducible exact Below.refl _ _ | with_reducible refine Below.drew ?_ | with_reducible refine below_drewN ?_ _ | with_reducible refine Below.alloc ?_ (by first | (simp; done) | (simp; omega) | omega) _ | with_reducible refine Below.setCell ?_ (by first | (simp; done) | (simp; omega) | omega) _)) hc3
  replace k2 := k2.later hst3
  clear hst3
  clear hc3 hb2
  go_wp2_with fail
  with_reducible refine (H_q3.out _).mono ?_
  rintro e w4 ⟨rfl, hc4⟩
  have hb4 : Below w.heap.size w w4 := bchain (by repeat' (first | with_reducible exact hb3 | with_reducible refine Below.drew ?_ | with_reducible refine below_drewN ?_ _ | with_reducible refine Below.alloc ?_ (by have := hb3.size; first | (simp; done) | (simp; omega) | omega) _ | with_reducible refine Below.setCell ?_ (by first | (simp; done) | (simp; omega) | omega) _)) hc4
  have hst4 : Below w3.heap.size w3 w4 := bchain (by repeat' (first | with_reducible exact Below.refl _ _ | with_reducible refine Below.drew ?_ | with_reducible refine below_drewN ?_ _ | with_reducible refine Below.alloc ?_ (by first | (simp; done) | (simp; omega) | omega) _ | with_reducible refine Below.setCell ?_ (by first | (simp; done) | (simp; omega) | omega) _)) hc4
  replace k2 := k2.later hst4
  clear hst4
  clear hc4 hb3
  go_wp2_with fail
  with_reducible refine (H_q4.out _ _ _).mono ?_
  rintro e w5 ⟨rfl, hc5⟩
  have hb5 : Below w.heap.size w w5 := bchain (by repeat' (first | with_reducible exact hb4 | with_reducible refine Below.drew ?_ | with_reducible refine below_drewN ?_ _ | with_reducible refine Below.alloc ?_ (by have := hb4.size; first | (simp; done) | (simp; omega) | omega) _ | with_reducible refine Below.setCell ?_ (by first | (simp; done) | (simp; omega) | omega) _)) hc5
  have hst5 : Below w4.heap.size w4 w5 := bchain (by repeat' (first | with_reducible exact Below.refl _ _ | with_reducible refine Below.drew ?_ | with_reducible refine below_drewN ?_ _ | with_reducible refine Below.alloc ?_ (by first | (simp; done) | (simp; omega) | omega) _ | with_reducible refine Below.setCell ?_ (by first | (simp; done) | (simp; omega) | omega) _)) hc5
  replace k2 := k2.later hst5
  clear hst5
  clear hc5 hb4
  go_wp2_with fail
  with_reducible refine (H_q5.out _ _ _).mono ?_
  rintro e w6 ⟨rfl, hc6⟩
  have hb6 : Below w.heap.size w w6 := bchain (by repeat' (first | with_reducible exact hb5 | with_reducible refine Below.drew ?_ | with_reducible refine below_drewN ?_ _ | with_reducible refine Below.alloc ?_ (by have := hb5.size; first | (simp; done) | (simp; omega) | omega) _ | with_reducible refine Below.setCell ?_ (by first | (simp; done) | (simp; omega) | omega) _)) hc6
  have hst6 : Below w5.heap.size w5 w6 := bchain (by repeat' (first | with_reducible exact Below.refl _ _ | with_reducible refine Below.drew ?_ | with_reducible refine below_drewN ?_ _ | with_reducible refine Below.alloc ?_ (by first | (simp; done) | (simp; omega) | omega) _ | with_reducible refine Below.setCell ?_ (by first | (simp; done) | (simp; omega) | omega) _)) hc6
  replace k2 := k2.later hst6
  clear hst6
  clear hc6 hb5
  go_wp2_with fail
  with_reducible refine (H_q6.out _ _ _).mono ?_
  rintro e w7 ⟨rfl, hc7⟩
  have hb7 : Below w.heap.size w w7 := bchain (by repeat' (first | with_reducible exact hb6 | with_reducible refine Below.drew ?_ | with_reducible refine below_drewN ?_ _ | with_reducible refine Below.alloc ?_ (by have := hb6.size; first | (simp; done) | (simp; omega) | omega) _ | with_reducible refine Below.setCell ?_ (by first | (simp; done) | (simp; omega) | omega) _)) hc7
  have hst7 : Below w6.heap.size w6 w7 := bchain (by repeat' (first | with_reducible exact Below.refl _ _ | with_reducible refine Below.drew ?_ | with_reducible refine below_drewN ?_ _ | with_reducible refine Below.alloc ?_ (by first | (simp; done) | (simp; omega) | omega) _ | with_reducible refine Below.setCell ?_ (by first | (simp; done) | (simp; omega) | omega) _)) hc7
  replace k2 := k2.later hst7
  clear hst7
  clear hc7 hb6
  go_wp2_with fail
  with_reducible refine (H_q7.out _ _ _ ⟨H_zl.out, (by repeat' (first | with_reducible exact k2 | with_reducible refine CellsAt.setFar ?_ ?_ _ | with_reducible refine CellsAt.alloc ?_ _ | with_reducible refine CellsAt.drew ?_ | with_reducible refine CellsAt.drewN ?_ _ | assumption | (simp; omega) | omega)), H_zb.out⟩ (H_wf.out _ (by repeat' (first | with_reducible exact hb7 | with_reducible refine Below.drew ?_ | with_reducible refine below_drewN ?_ _ | with_reducible refine Below.alloc ?_ (by have := hb7.size; first | (simp; done) | (simp; omega) | omega) _ | with_reducible refine Below.setCell ?_ (by first | (simp; done) | (simp; omega) | omega) _)))).mono ?_
  rintro e w8 ⟨rfl, hc8⟩
  have hb8 : Below w.heap.size w w8 := bchain (by repeat' (first | with_reducible exact hb7 | with_reducible refine Below.drew ?_ | with_reducible refine below_drewN ?_ _ | with_reducible refine Below.alloc ?_ (by have := hb7.size; first | (simp; done) | (simp; omega) | omega) _ | with_reducible refine Below.setCell ?_ (by first | (simp; done) | (simp; omega) | omega) _)) hc8
  have hst8 : Below w7.heap.size w7 w8 := bchain (by repeat' (first | with_reducible exact Below.refl _ _ | with_reducible refine Below.drew ?_ | with_reducible refine below_drewN ?_ _ | with_reducible refine Below.alloc ?_ (by first | (simp; done) | (simp; omega) | omega) _ | with_reducible refine Below.setCell ?_ (by first | (simp; done) | (simp; omega) | omega) _)) hc8
  replace k2 := k2.later hst8
  clear hst8
  clear hc8 hb7
  go_wp2_with fail
  with_reducible refine (H_q8.out _ _ _).mono ?_
  rintro e w9 ⟨rfl, hc9⟩
  have hb9 : Below w.heap.size w w9 := bchain (by repeat' (first | with_reducible exact hb8 | with_reducible refine Below.drew ?_ | with_reducible refine below_drewN ?_ _ | with_reducible refine Below.alloc ?_ (by have := hb8.size; first | (simp; done) | (simp; omega) | omega) _ | with_reducible refine Below.setCell ?_ (by first | (simp; done) | (simp; omega) | omega) _)) hc9
  have hst9 : Below w8.heap.size w8 w9 := bchain (by repeat' (first | with_reducible exact Below.refl _ _ | with_reducible refine Below.drew ?_ | with_reducible refine below_drewN ?_ _ | with_reducible refine Below.alloc ?_ (by first | (simp; done) | (simp; omega) | omega) _ | with_reducible refine Below.setCell ?_ (by first | (simp; done) | (simp; omega) | omega) _)) hc9
  replace k2 := k2.later hst9
  clear hst9
  clear hc9 hb8
  go_wp2_with fail
  with_reducible refine (H_q9.out _ _ _).mono ?_
  rintro e w10 ⟨rfl, hc10⟩
  have hb10 : Below w.heap.size w w10 := bchain (by repeat' (first | with_reducible exact hb9 | with_reducible refine Below.drew ?_ | with_reducible refine below_drewN ?_ _ | with_reducible refine Below.alloc ?_ (by have := hb9.size; first | (simp; done) | (simp; omega) | omega) _ | with_reducible refine Below.setCell ?_ (by first | (simp; done) | (simp; omega) | omega) _)) hc10
  have hst10 : Below w9.heap.size w9 w10 := bchain (by repeat' (first | with_reducible exact Below.refl _ _ | with_reducible refine Below.drew ?_ | with_reducible refine below_drewN ?_ _ | with_reducible refine Below.alloc ?_ (by first | (simp; done) | (simp; omega) | omega) _ | with_reducible refine Below.setCell ?_ (by first | (simp; done) | (simp; omega) | omega) _)) hc10
  replace k2 := k2.later hst10
  clear hst10
  clear hc10 hb9
  go_wp2_with fail
  with_reducible refine (H_q10.out _ (H_wf.out _ (by repeat' (first | with_reducible exact hb10 | with_reducible refine Below.drew ?_ | with_reducible refine below_drewN ?_ _ | with_reducible refine Below.alloc ?_ (by have := hb10.size; first | (simp; done) | (simp; omega) | omega) _ | with_reducible refine Below.setCell ?_ (by first | (simp; done) | (simp; omega) | omega) _)))).mono ?_
  rintro e w11 ⟨rfl, hc11⟩
  have hb11 : Below w.heap.size w w11 := bchain (by repeat' (first | with_reducible exact hb10 | with_reducible refine Below.drew ?_ | with_reducible refine below_drewN ?_ _ | with_reducible refine Below.alloc ?_ (by have := hb10.size; first | (simp; done) | (simp; omega) | omega) _ | with_reducible refine Below.setCell ?_ (by first | (simp; done) | (simp; omega) | omega) _)) hc11
  have hst11 : Below w10.heap.size w10 w11 := bchain (by repeat' (first | with_reducible exact Below.refl _ _ | with_reducible refine Below.drew ?_ | with_reducible refine below_drewN ?_ _ | with_reducible refine Below.alloc ?_ (by first | (simp; done) | (simp; omega) | omega) _ | with_reducible refine Below.setCell ?_ (by first | (simp; done) | (simp; omega) | omega) _)) hc11
  replace k2 := k2.later hst11
  clear hst11
  clear hc11 hb10
  go_wp2_with fail
  with_reducible refine (H_q11.out _ _ _ ⟨H_zl.out, (by repeat' (first | with_reducible exact k2 | with_reducible refine CellsAt.setFar ?_ ?_ _ | with_reducible refine CellsAt.alloc ?_ _ | with_reducible refine CellsAt.drew ?_ | with_reducible refine CellsAt.drewN ?_ _ | assumption | (simp; omega) | omega)), H_zb.out⟩ (H_wf.out _ (by repeat' (first | with_reducible exact hb11 | with_reducible refine Below.drew ?_ | with_reducible refine below_drewN ?_ _ | with_reducible refine Below.alloc ?_ (by have := hb11.size; first | (simp; done) | (simp; omega) | omega) _ | with_reducible refine Below.setCell ?_ (by first | (simp; done) | (simp; omega) | omega) _)))).mono ?_
  rintro e w12 ⟨rfl, hc12⟩
  have hb12 : Below w.heap.size w w12 := bchain (by repeat' (first | with_reducible exact hb11 | with_reducible refine Below.drew ?_ | with_reducible refine below_drewN ?_ _ | with_reducible refine Below.alloc ?_ (by have := hb11.size; first | (simp; done) | (simp; omega) | omega) _ | with_reducible refine Below.setCell ?_ (by first | (simp; done) | (simp; omega) | omega) _)) hc12
  have hst12 : Below w11.heap.size w11 w12 := bchain (by repeat' (first | with_reducible exact Below.refl _ _ | with_reducible refine Below.drew ?_ | with_reducible refine below_drewN ?_ _ | with_reducible refine Below.alloc ?_ (by first | (simp; done) | (simp; omega) | omega) _ | with_reducible refine Below.setCell ?_ (by first | (simp; done) | (simp; omega) | omega) _)) hc12
  have A_0 : w12.cell? ⟨w11.heap.size, 0, none⟩ = some (.int .u32 E1) := (hc12.cell (p := ⟨w11.heap.size, 0, none⟩) (by first | (simp; done) | (simp; omega))).trans (by first | (simp; done) | go_simp)
  have A_1 : w12.cell? ⟨w11.heap.size, 1, none⟩ = some (.int .u32 S1) := (hc12.cell (p := ⟨w11.heap.size, 1, none⟩) (by first | (simp; done) | (simp; omega))).trans (by first | (simp; done) | go_simp)
  have A_l : w11.heap.size < w12.heap.size := Nat.lt_of_lt_of_le (by first | (simp; done) | (simp; omega)) hc12.size
  replace k2 := k2.later hst12
  clear hst12
  clear hc12 hb11
  go_wp2_with fail
  simp only [List.append]
  go_wp2_with fail
  refine wp_gen fun w13 hc13 => ?_
  have hb13 : Below w.heap.size w w13 := bchain (by repeat' (first | with_reducible exact hb12 | with_reducible refine Below.drew ?_ | with_reducible refine below_drewN ?_ _ | with_reducible refine Below.alloc ?_ (by have := hb12.size; first | (simp; done) | (simp; omega) | omega) _ | with_reducible refine Below.setCell ?_ (by first | (simp; done) | (simp; omega) | omega) _)) hc13
  have hst13 : Below w12.heap.size w12 w13 := bchain (by repeat' (first | with_reducible exact Below.refl _ _ | with_reducible refine Below.drew ?_ | with_reducible refine below_drewN ?_ _ | with_reducible refine Below.alloc ?_ (by first | (simp; done) | (simp; omega) | omega) _ | with_reducible refine Below.setCell ?_ (by first | (simp; done) | (simp; omega) | omega) _)) hc13
  replace A_0 := cell_later hst13 A_0
  replace A_1 := cell_later hst13 A_1
  replace A_l := Nat.lt_of_lt_of_le A_l hst13.size
  have B_0 : w13.cell? ⟨w12.heap.size, 0, none⟩ = some (.int .u32 E2) := (hc13.cell (p := ⟨w12.heap.size, 0, none⟩) (by first | (simp; done) | (simp; omega))).trans (by first | (simp; done) | go_simp)
  have B_1 : w13.cell? ⟨w12.heap.size, 1, none⟩ = some (.int .u32 S2) := (hc13.cell (p := ⟨w12.heap.size, 1, none⟩) (by first | (simp; done) | (simp; omega))).trans (by first | (simp; done) | go_simp)
  have B_l : w12.heap.size < w13.heap.size := Nat.lt_of_lt_of_le (by first | (simp; done) | (simp; omega)) hc13.size
  replace k2 := k2.later hst13
  clear hst13
  have KA_0 := cell_on A_0
  have KA_1 := cell_on A_1
  have KB_0 := cell_on B_0
  have KB_1 := cell_on B_1
  have TK := Box.mk (H_wf.out _ hb13)
  have MS := Box.mk (MsgIn.mk H_zl.out k2 H_zb.out)
  refine wp_region_on (by kernel_rfl) (lexB_of (by kernel_rfl)) ?_
  iterate 47 (go_big_quiet_step (fail))
  go_big_quiet_step ((go_at_call 10; with_reducible exact calls_on (H_q12.out _ (TK.out.on _))))
  iterate 10 (go_big_quiet_step (fail))
  go_big_quiet_step ((go_at_call 10; with_reducible exact calls_on (H_q13.out _ _ _ (MS.out.on _) (TK.out.on _))))
  iterate 5 (go_big_quiet_step (fail))
  go_big_quiet_step ((go_at_call 10; with_reducible exact calls_on (H_q14.out _ _ _)))
  iterate 5 (go_big_quiet_step (fail))
  go_big_quiet_step ((go_at_call 10; with_reducible exact calls_on (H_q15.out _ _ _)))
  iterate 4 (go_big_quiet_step (fail))
  go_big_quiet_step ((go_at_call 10; with_reducible exact calls_on (H_q16.out _)))
  iterate 4 (go_big_quiet_step (fail))
  go_big_quiet_step ((go_at_call 10; with_reducible exact calls_on (H_q17.out _)))
  iterate 4 (go_big_quiet_step (fail))
  go_big_quiet_step ((go_at_call 10; with_reducible exact calls_on (H_q18.out _)))
  iterate 3 (go_big_quiet_step (fail))
  go_big_quiet_step ((go_at_call 20; with_reducible exact calls_on (H_q19.out _)))
  iterate 3 (go_big_quiet_step (fail))
  go_big_quiet_step ((go_at_call 20; with_reducible exact calls_on (H_q20.out _)))
  iterate 3 (go_big_quiet_step (fail))
  go_big_quiet_step ((go_at_call 23; with_reducible exact calls_on (alive_any _ (TK.out.on _))))
  iterate 2 (go_big_quiet_step (fail))
  refine wpQuiet_nil ?_
  intro w14 hc14
  clear KA_0 KA_1 KB_0 KB_1
  have hb14 : Below w.heap.size w w14 := bchain (by repeat' (first | with_reducible exact hb13 | with_reducible refine Below.drew ?_ | with_reducible refine below_drewN ?_ _ | with_reducible refine Below.alloc ?_ (by have := hb13.size; first | (simp; done) | (simp; omega) | omega) _ | with_reducible refine Below.setCell ?_ (by first | (simp; done) | (simp; omega) | omega) _)) hc14
  have hst14 : Below w13.heap.size w13 w14 := bchain (by repeat' (first | with_reducible exact Below.refl _ _ | with_reducible refine Below.drew ?_ | with_reducible refine below_drewN ?_ _ | with_reducible refine Below.alloc ?_ (by first | (simp; done) | (simp; omega) | omega) _ | with_reducible refine Below.setCell ?_ (by first | (simp; done) | (simp; omega) | omega) _)) hc14
  replace A_0 := cell_later hst14 A_0
  replace A_1 := cell_later hst14 A_1
  replace A_l := Nat.lt_of_lt_of_le A_l hst14.size
  replace B_0 := cell_later hst14 B_0
  replace B_1 := cell_later hst14 B_1
  replace B_l := Nat.lt_of_lt_of_le B_l hst14.size
  replace k2 := k2.later hst14
  clear hst14
  go_wp2_with fail
  go_ret
  exact ⟨rfl, by repeat' (first | with_reducible exact hb14 | with_reducible refine Below.drew ?_ | with_reducible refine below_drewN ?_ _ | with_reducible refine Below.alloc ?_ (by have := hb14.size; first | (simp; done) | (simp; omega) | omega) _ | with_reducible refine Below.setCell ?_ (by first | (simp; done) | (simp; omega) | omega) _)⟩

/-- SignNames returns true. -/
theorem names_full (w : World) (hK : CellsAt w (some ⟨0, 0, none⟩) (kcs.map (Value.int .u32)) ∧ 0 < w.heap.size) :
    Calls Tryd.prog 5 #[] w fun e w' =>
      e = .returned (.bool true) ∧ Below w.heap.size w w' := names_walk w ⟨hK.1, hK.2⟩

end Go.Proofs.YtdlacedminebdaaDoor
