/- The package sign: what is signed verifies; different secrets have different keys; the chapter's examples. -/
import Derived.Test.YtdlacedminebdaaDoorSignRefs
namespace Go.Proofs.YtdlacedminebdaaDoor
set_option linter.unusedSimpArgs false
set_option linter.unusedVariables false
set_option linter.unnecessarySimpa false
open Go.RowKit

theorem backR_sign {s : Int} (h1 : 1 ≤ s) (h2 : s < 500000003) (bs : List Int) : backR (pubK s) (sgE s bs) (sgS s bs) = pubK (nonP s bs) := by
  have hE := sgE_rng s bs
  have hk := nonP_rng s bs
  have hS : sgS s bs = (nonP s bs + sgE s bs * s % 500000003) % 500000003 := rfl
  have hS2 := sgS_rng s bs
  generalize sgE s bs = E at *
  generalize sgS s bs = S at *
  generalize nonP s bs = k at *
  have hm0 : 0 ≤ E * s := Int.mul_nonneg hE.1 (by omega)
  have hQ : s * (500000003 - E) = 500000003 * s - E * s := by rw [Int.mul_sub, Int.mul_comm s 500000003, Int.mul_comm s E]
  have hQ0 : 0 ≤ s * (500000003 - E) := Int.mul_nonneg (by omega) (by omega)
  unfold backR pubK
  rw [pwI_mul 4 s (500000003 - E) (by omega) (by omega), pwI_add 4 S _ hS2.1 hQ0, ← pwI_rem is_4 (S + s * (500000003 - E)) (by omega), ← pwI_rem is_4 k (by omega)]
  congr 2
  rw [hQ]
  generalize E * s = m at *
  omega
theorem verZ_sign {s : Int} (h1 : 1 ≤ s) (h2 : s < 500000003) (bs : List Int) (hl : bs.length ≤ 9991) : verZ (pubK s) (sgE s bs) (sgS s bs) bs = 0 := by
  have hE := sgE_rng s bs
  have hS := sgS_rng s bs
  unfold verZ
  rw [if_neg (by rw [pubK_in]; decide), if_neg (by omega), if_neg (by omega), if_pos]
  rw [backR_sign h1 h2]
  rfl
theorem verZ_big (y E S : Int) (bs : List Int) (hy : isB y = true) (hl : bs.length ≤ 9991) (hb : 500000003 ≤ E ∨ 500000003 ≤ S) : verZ y E S bs = 22 := by
  unfold verZ
  rw [if_neg (by rw [hy]; decide), if_neg (by omega), if_pos hb]
theorem ord4 (d : Nat) (h0 : 0 < d) (h1 : d < 500000003) : gpw 4 d 1000000007 ≠ 1 := by
  intro h
  obtain ⟨m, hm⟩ : ∃ m, 500000003 - 1 = m + 1 := ⟨500000001, rfl⟩
  have hf := fermat prim_Q d h0 h1
  rw [hm, Nat.pow_succ, Nat.mul_comm] at hf
  generalize d ^ m = z at hf
  have h2 := pw_mul 4 d z 1000000007
  rw [h, pw_one_base z _ (by omega)] at h2
  have h3 := pw_rem 4 (d * z) 500000003 1000000007 (by omega) (isB_pw is_4)
  rw [hf, ← h2, pw_one] at h3
  exact absurd h3 (by decide)
theorem pubK_lt {a b : Int} (a1 : 1 ≤ a) (hab : a < b) (b2 : b < 500000003) : pubK a ≠ pubK b := by
  intro h
  unfold pubK at h
  have e1 := pwI_add 4 (500000003 - a) a (by omega) (by omega)
  have e2 := pwI_add 4 (500000003 - a) b (by omega) (by omega)
  rw [← h, e1] at e2
  rw [show (500000003 - a + a).toNat = 500000003 from by omega, isB_pw is_4, ← pwI_rem is_4 (500000003 - a + b) (by omega), show ((500000003 - a + b) % 500000003).toNat = (b - a).toNat from by omega] at e2
  exact ord4 _ (by omega) (by omega) e2.symm
theorem pubK_ne {a b : Int} (a1 : 1 ≤ a) (a2 : a < 500000003) (b1 : 1 ≤ b) (b2 : b < 500000003) (hab : a ≠ b) : pubK a ≠ pubK b := by
  rcases Int.lt_or_gt_of_ne hab with h | h
  · exact pubK_lt a1 h b2
  · exact (pubK_lt b1 h a2).symm
theorem pubK_one {a : Int} (a1 : 1 ≤ a) (a2 : a < 500000003) : pubK a ≠ 1 := ord4 _ (by omega) (by omega)
theorem pub_1 : pubK 1 = 4 := by decide +kernel
theorem pub_2 : pubK 2 = 16 := by decide +kernel
theorem row_cells (w : World) (cs : List Value) (e : TypeId) (fr : Nat × Nat) (H : Nat) (hH : w.heap.size = H) (a : Array Value) (ha : a = cs.toArray) : CellsAt (w.alloc (.cells a e fr)) (some ⟨H, 0, none⟩) cs := by
  subst hH; subst ha
  refine .inr ⟨_, _, rfl, fun j u hj => ?_⟩
  have hh : (w.alloc (.cells cs.toArray e fr)).heap[w.heap.size]? = some (.cells cs.toArray e fr) := heap_alloc_new w _
  rw [cell_of_row _ _ _ _ _ _ hh, Nat.zero_add]
  simpa using hj
/-- '[]byte' of a new '[]byte': the row is marked. -/
theorem run_same_bytes {P : Program} (w : World) (t e : TypeId) (C : Array Value) (m c H : Nat) (hH : w.heap.size = H) (ht : P.underlying t = some (.slice e)) (he : P.underlying e = some (.int .u8)) :
    (convert t t (.slice (some ⟨H, 0, none⟩) m c)).run P (w.alloc (.cells C e)) = .ok (.slice (some ⟨H, 0, none⟩) m c) (w.alloc (.cells C e (C.size, C.size + 1))) := by
  subst hH
  have hsh : (w.alloc (.cells C e)).shape? w.heap.size = some (e, C.size) := by
    have : (w.alloc (.cells C e)).heap[w.heap.size]? = some (.cells C e) := heap_alloc_new w _
    unfold World.shape?
    rw [this]
  have hfr : ∀ (n : Nat), (w.alloc (.cells C e)).freeze ⟨w.heap.size, n, none⟩ 1 = w.alloc (.cells C e (n, n + 1)) := fun n => by
    have hm : ∀ (a : Array Obj) (x : Obj) (f : Obj → Obj), (a.push x).modify a.size f = a.push (f x) := by
      intro a x f
      apply Array.ext
      · simp
      · intro i h1 h2
        simp only [Array.getElem_modify, Array.getElem_push]
        by_cases h : a.size = i
        · subst h
          simp
        · have hi : i < a.size := by simp at h1; omega
          simp [h, hi]
    unfold World.freeze
    rw [if_neg (by decide)]
    show ({ w.alloc (.cells C e) with heap := (w.heap.push (.cells C e)).modify w.heap.size _ } : World) = _
    rw [hm]
    rfl
  simp [convert, run_underlying ht, run_underlying he, markStringish, hsh]
  exact hfr _
def msgB : List Int := [109, 101, 115, 115, 97, 103, 101]

set_option maxRecDepth 100000 in
set_option maxHeartbeats 1000000 in
theorem alive_any (w : World) (hT : TabK w) :
    Calls Tryd.prog 23 #[] w fun e w' =>
      e = .returned (.bool true) ∧ Below w.heap.size w w' := by
  obtain ⟨bs, hbs⟩ : ∃ bs, msgB = bs := ⟨_, rfl⟩
  obtain ⟨E, hE⟩ : ∃ E, sgE 2 bs = E := ⟨_, rfl⟩
  obtain ⟨S, hS⟩ : ∃ S, sgS 2 bs = S := ⟨_, rfl⟩
  have hE1 := sgE_rng 2 bs
  have hS1 := sgS_rng 2 bs
  have hl : bs.length = 7 := by rw [← hbs]; rfl
  have m8 : Bytes8 bs := by rw [← hbs]; unfold msgB Bytes8; decide
  have hv : verZ 16 E S bs = 0 := by rw [← pub_2, ← hE, ← hS]; exact verZ_sign (by omega) (by omega) bs (by omega)
  have i16 : isB 16 = true := by rw [← pub_2]; exact pubK_in 2
  rw [hE] at hE1; rw [hS] at hS1
  obtain ⟨hE0, hE1⟩ := hE1
  obtain ⟨hS0, hS1⟩ := hS1
  have e1 : IntKind.u32.wrap (E + 500000003) = E + 500000003 := by rw [IntKind.wrap_u32]; omega
  have e2 : IntKind.u32.wrap (S + 500000003) = S + 500000003 := by rw [IntKind.wrap_u32]; omega
  have q1 : ∀ W a, MsgIn W a 7 bs → TabK W → Calls Tryd.prog 18 #[.int .u32 2, .slice a 7 7] W fun e w' => e = .returned (.tuple #[.agg #[.int .u32 E, .int .u32 S], .int .i64 0]) ∧ Below W.heap.size W w' := fun W a h1 h2 => by have := sign_ok 2 bs a 7 7 W (by omega) (by omega) h1 (by omega) h2; rw [hE, hS] at this; exact this
  have q2 : ∀ W a, MsgIn W a 7 bs → TabK W → Calls Tryd.prog 10 #[.int .u32 16, .slice a 7 7, .agg #[.int .u32 E, .int .u32 S]] W fun e w' => e = .returned (.int .i64 0) ∧ Below W.heap.size W w' := fun W a h1 h2 => by have := verify_all 16 E S bs a 7 7 W (by omega) (by omega) hE0 hS0 h1 h2; rw [hv] at this; exact this
  have q3 : ∀ W a, MsgIn W a 7 bs → TabK W → Calls Tryd.prog 10 #[.int .u32 16, .slice a 7 7, .agg #[.int .u32 E, .int .u32 (S + 500000003)]] W fun e w' => e = .returned (.int .i64 22) ∧ Below W.heap.size W w' := fun W a h1 h2 => by have := verify_all 16 E (S + 500000003) bs a 7 7 W (by omega) (by omega) hE0 (by omega) h1 h2; rw [verZ_big _ _ _ _ i16 (by omega) (by omega)] at this; exact this
  have q4 : ∀ W a, MsgIn W a 7 bs → TabK W → Calls Tryd.prog 10 #[.int .u32 16, .slice a 7 7, .agg #[.int .u32 (E + 500000003), .int .u32 S]] W fun e w' => e = .returned (.int .i64 22) ∧ Below W.heap.size W w' := fun W a h1 h2 => by have := verify_all 16 (E + 500000003) S bs a 7 7 W (by omega) (by omega) (by omega) hS0 h1 h2; rw [verZ_big _ _ _ _ i16 (by omega) (by omega)] at this; exact this
  have p1 := fun W => pub_1 ▸ public_ok 1 W (by omega) (by omega)
  have p2 := fun W => pub_2 ▸ public_ok 2 W (by omega) (by omega)
  have wf : ∀ W, Below w.heap.size w W → TabK W := fun W h => hT.later h
  have kk : ∀ W : World, CellsAt (W.alloc (.cells #[.int .u8 109, .int .u8 101, .int .u8 115, .int .u8 115, .int .u8 97, .int .u8 103, .int .u8 101] 5 (7, 8))) (some ⟨W.heap.size, 0, none⟩) (bs.map (Value.int .u8)) := fun W => by rw [← hbs]; exact row_cells W _ _ _ _ rfl _ rfl
  have hl7 : 7 = bs.length := hl.symm
  clear hl
  have H_hbs := Box.mk hbs
  have H_hE := Box.mk hE
  have H_hS := Box.mk hS
  have H_m8 := Box.mk m8
  have H_hv := Box.mk hv
  have H_i16 := Box.mk i16
  have H_q1 := Box.mk q1
  have H_q2 := Box.mk q2
  have H_q3 := Box.mk q3
  have H_q4 := Box.mk q4
  have H_p1 := Box.mk p1
  have H_p2 := Box.mk p2
  have H_wf := Box.mk wf
  have H_kk := Box.mk kk
  have H_hT := Box.mk hT
  have H_hl7 := Box.mk hl7
  clear hbs hE hS m8 hv i16 q1 q2 q3 q4 p1 p2 wf kk hT hl7
  go_enter Tryd.func23, Tryd.ntmps23
  have hb0 := Below.refl w.heap.size w
  go_wp2_with fail
  with_reducible refine (H_p1.out _).mono ?_
  rintro e w1 ⟨rfl, hc1⟩
  have hb1 : Below w.heap.size w w1 := bchain (by repeat' (first | with_reducible exact hb0 | with_reducible refine Below.drew ?_ | with_reducible refine below_drewN ?_ _ | with_reducible refine Below.alloc ?_ (by have := hb0.size; first | (simp; done) | (simp; omega) | omega) _ | with_reducible refine Below.setCell ?_ (by first | (simp; done) | (simp; omega) | omega) _)) hc1
  clear hc1 hb0
  go_wp2_with fail
  with_reducible refine (H_p2.out _).mono ?_
  rintro e w2 ⟨rfl, hc2⟩
  have hb2 : Below w.heap.size w w2 := bchain (by repeat' (first | with_reducible exact hb1 | with_reducible refine Below.drew ?_ | with_reducible refine below_drewN ?_ _ | with_reducible refine Below.alloc ?_ (by have := hb1.size; first | (simp; done) | (simp; omega) | omega) _ | with_reducible refine Below.setCell ?_ (by first | (simp; done) | (simp; omega) | omega) _)) hc2
  clear hc2 hb1
  have hcv := run_same_bytes (P := Tryd.prog) w2 23 5 #[.int .u8 109, .int .u8 101, .int .u8 115, .int .u8 115, .int .u8 97, .int .u8 103, .int .u8 101] 7 7 _ rfl Tryd.underlying23 Tryd.underlying5
  go_upto_region 4 with fail
  have k := H_kk.out w2
  clear hcv
  go_wp2_with fail
  with_reducible refine (H_q1.out _ _ ⟨H_hl7.out, k, H_m8.out⟩ (H_wf.out _ (by repeat' (first | with_reducible exact hb2 | with_reducible refine Below.drew ?_ | with_reducible refine below_drewN ?_ _ | with_reducible refine Below.alloc ?_ (by have := hb2.size; first | (simp; done) | (simp; omega) | omega) _ | with_reducible refine Below.setCell ?_ (by first | (simp; done) | (simp; omega) | omega) _)))).mono ?_
  rintro e w3 ⟨rfl, hc3⟩
  replace k := k.later hc3
  have hb3 : Below w.heap.size w w3 := bchain (by repeat' (first | with_reducible exact hb2 | with_reducible refine Below.drew ?_ | with_reducible refine below_drewN ?_ _ | with_reducible refine Below.alloc ?_ (by have := hb2.size; first | (simp; done) | (simp; omega) | omega) _ | with_reducible refine Below.setCell ?_ (by first | (simp; done) | (simp; omega) | omega) _)) hc3
  clear hc3
  go_wp2_with fail
  go_region
  · skip
    go_wp2_with fail
    go_wp2_with fail
    refine (check_no 0 _ (by omega) (by omega) (.inl rfl)).mono ?_
    rintro e w' ⟨rfl, rfl⟩
    go_wp2_with fail
    refine (check_no 500000003 _ (by omega) (by omega) (.inr (Int.le_refl _))).mono ?_
    rintro e w' ⟨rfl, rfl⟩
    go_wp2_with fail
    with_reducible refine (H_q2.out _ _ ⟨H_hl7.out, (by repeat' (first | with_reducible exact k | with_reducible refine CellsAt.setFar ?_ ?_ _ | with_reducible refine CellsAt.alloc ?_ _ | with_reducible refine CellsAt.drew ?_ | with_reducible refine CellsAt.drewN ?_ _ | assumption | (simp; omega) | omega)), H_m8.out⟩ (H_wf.out _ (by repeat' (first | with_reducible exact hb3 | with_reducible refine Below.drew ?_ | with_reducible refine below_drewN ?_ _ | with_reducible refine Below.alloc ?_ (by have := hb3.size; first | (simp; done) | (simp; omega) | omega) _ | with_reducible refine Below.setCell ?_ (by first | (simp; done) | (simp; omega) | omega) _)))).mono ?_
    rintro e w4 ⟨rfl, hc4⟩
    have hb4 : Below w.heap.size w w4 := bchain (by repeat' (first | with_reducible exact hb3 | with_reducible refine Below.drew ?_ | with_reducible refine below_drewN ?_ _ | with_reducible refine Below.alloc ?_ (by have := hb3.size; first | (simp; done) | (simp; omega) | omega) _ | with_reducible refine Below.setCell ?_ (by first | (simp; done) | (simp; omega) | omega) _)) hc4
    have hst4 : Below w3.heap.size w3 w4 := bchain (by repeat' (first | with_reducible exact Below.refl _ _ | with_reducible refine Below.drew ?_ | with_reducible refine below_drewN ?_ _ | with_reducible refine Below.alloc ?_ (by first | (simp; done) | (simp; omega) | omega) _ | with_reducible refine Below.setCell ?_ (by first | (simp; done) | (simp; omega) | omega) _)) hc4
    have P_0 : w4.cell? ⟨w3.heap.size, 0, none⟩ = some (.int .u32 E) := (hc4.cell (p := ⟨w3.heap.size, 0, none⟩) (by first | (simp; done) | (simp; omega))).trans (by first | (simp; done) | go_simp)
    have P_1 : w4.cell? ⟨w3.heap.size, 1, none⟩ = some (.int .u32 S) := (hc4.cell (p := ⟨w3.heap.size, 1, none⟩) (by first | (simp; done) | (simp; omega))).trans (by first | (simp; done) | go_simp)
    have P_l : w3.heap.size < w4.heap.size := Nat.lt_of_lt_of_le (by first | (simp; done) | (simp; omega)) hc4.size
    have X_0 : w4.cell? ⟨w3.heap.size + 1, 0, none⟩ = some (.int .u32 E) := (hc4.cell (p := ⟨w3.heap.size + 1, 0, none⟩) (by first | (simp; done) | (simp; omega))).trans (by first | (simp; done) | go_simp)
    have X_1 : w4.cell? ⟨w3.heap.size + 1, 1, none⟩ = some (.int .u32 (S + 500000003)) := (hc4.cell (p := ⟨w3.heap.size + 1, 1, none⟩) (by first | (simp; done) | (simp; omega))).trans (by first | (simp; done) | go_simp)
    have X_l : w3.heap.size + 1 < w4.heap.size := Nat.lt_of_lt_of_le (by first | (simp; done) | (simp; omega)) hc4.size
    have Y_0 : w4.cell? ⟨w3.heap.size + 1 + 1, 0, none⟩ = some (.int .u32 (E + 500000003)) := (hc4.cell (p := ⟨w3.heap.size + 1 + 1, 0, none⟩) (by first | (simp; done) | (simp; omega))).trans (by first | (simp; done) | go_simp)
    have Y_1 : w4.cell? ⟨w3.heap.size + 1 + 1, 1, none⟩ = some (.int .u32 S) := (hc4.cell (p := ⟨w3.heap.size + 1 + 1, 1, none⟩) (by first | (simp; done) | (simp; omega))).trans (by first | (simp; done) | go_simp)
    have Y_l : w3.heap.size + 1 + 1 < w4.heap.size := Nat.lt_of_lt_of_le (by first | (simp; done) | (simp; omega)) hc4.size
    replace k := k.later hst4
    clear hst4
    clear hc4 hb3
    go_wp2_with fail
    with_reducible refine (H_q3.out _ _ ⟨H_hl7.out, (by repeat' (first | with_reducible exact k | with_reducible refine CellsAt.setFar ?_ ?_ _ | with_reducible refine CellsAt.alloc ?_ _ | with_reducible refine CellsAt.drew ?_ | with_reducible refine CellsAt.drewN ?_ _ | assumption | (simp; omega) | omega)), H_m8.out⟩ (H_wf.out _ (by repeat' (first | with_reducible exact hb4 | with_reducible refine Below.drew ?_ | with_reducible refine below_drewN ?_ _ | with_reducible refine Below.alloc ?_ (by have := hb4.size; first | (simp; done) | (simp; omega) | omega) _ | with_reducible refine Below.setCell ?_ (by first | (simp; done) | (simp; omega) | omega) _)))).mono ?_
    rintro e w5 ⟨rfl, hc5⟩
    have hb5 : Below w.heap.size w w5 := bchain (by repeat' (first | with_reducible exact hb4 | with_reducible refine Below.drew ?_ | with_reducible refine below_drewN ?_ _ | with_reducible refine Below.alloc ?_ (by have := hb4.size; first | (simp; done) | (simp; omega) | omega) _ | with_reducible refine Below.setCell ?_ (by first | (simp; done) | (simp; omega) | omega) _)) hc5
    have hst5 : Below w4.heap.size w4 w5 := bchain (by repeat' (first | with_reducible exact Below.refl _ _ | with_reducible refine Below.drew ?_ | with_reducible refine below_drewN ?_ _ | with_reducible refine Below.alloc ?_ (by first | (simp; done) | (simp; omega) | omega) _ | with_reducible refine Below.setCell ?_ (by first | (simp; done) | (simp; omega) | omega) _)) hc5
    replace P_0 := cell_later hst5 P_0
    replace P_1 := cell_later hst5 P_1
    replace P_l := Nat.lt_of_lt_of_le P_l hst5.size
    replace X_0 := cell_later hst5 X_0
    replace X_1 := cell_later hst5 X_1
    replace X_l := Nat.lt_of_lt_of_le X_l hst5.size
    replace Y_0 := cell_later hst5 Y_0
    replace Y_1 := cell_later hst5 Y_1
    replace Y_l := Nat.lt_of_lt_of_le Y_l hst5.size
    replace k := k.later hst5
    clear hst5
    clear hc5 hb4
    go_wp2_with fail
    with_reducible refine (H_q4.out _ _ ⟨H_hl7.out, (by repeat' (first | with_reducible exact k | with_reducible refine CellsAt.setFar ?_ ?_ _ | with_reducible refine CellsAt.alloc ?_ _ | with_reducible refine CellsAt.drew ?_ | with_reducible refine CellsAt.drewN ?_ _ | assumption | (simp; omega) | omega)), H_m8.out⟩ (H_wf.out _ (by repeat' (first | with_reducible exact hb5 | with_reducible refine Below.drew ?_ | with_reducible refine below_drewN ?_ _ | with_reducible refine Below.alloc ?_ (by have := hb5.size; first | (simp; done) | (simp; omega) | omega) _ | with_reducible refine Below.setCell ?_ (by first | (simp; done) | (simp; omega) | omega) _)))).mono ?_
    rintro e w6 ⟨rfl, hc6⟩
    have hb6 : Below w.heap.size w w6 := bchain (by repeat' (first | with_reducible exact hb5 | with_reducible refine Below.drew ?_ | with_reducible refine below_drewN ?_ _ | with_reducible refine Below.alloc ?_ (by have := hb5.size; first | (simp; done) | (simp; omega) | omega) _ | with_reducible refine Below.setCell ?_ (by first | (simp; done) | (simp; omega) | omega) _)) hc6
    have hst6 : Below w5.heap.size w5 w6 := bchain (by repeat' (first | with_reducible exact Below.refl _ _ | with_reducible refine Below.drew ?_ | with_reducible refine below_drewN ?_ _ | with_reducible refine Below.alloc ?_ (by first | (simp; done) | (simp; omega) | omega) _ | with_reducible refine Below.setCell ?_ (by first | (simp; done) | (simp; omega) | omega) _)) hc6
    replace P_0 := cell_later hst6 P_0
    replace P_1 := cell_later hst6 P_1
    replace P_l := Nat.lt_of_lt_of_le P_l hst6.size
    replace X_0 := cell_later hst6 X_0
    replace X_1 := cell_later hst6 X_1
    replace X_l := Nat.lt_of_lt_of_le X_l hst6.size
    replace Y_0 := cell_later hst6 Y_0
    replace Y_1 := cell_later hst6 Y_1
    replace Y_l := Nat.lt_of_lt_of_le Y_l hst6.size
    replace k := k.later hst6
    clear hst6
    clear hc6 hb5
    go_wp2_with fail
    go_ret
    exact ⟨rfl, by repeat' (first | with_reducible exact hb6 | with_reducible refine Below.drew ?_ | with_reducible refine below_drewN ?_ _ | with_reducible refine Below.alloc ?_ (by have := hb6.size; first | (simp; done) | (simp; omega) | omega) _ | with_reducible refine Below.setCell ?_ (by first | (simp; done) | (simp; omega) | omega) _)⟩
  · skip
    go_wp2_with fail
    go_wp2_with fail
    refine (check_no 0 _ (by omega) (by omega) (.inl rfl)).mono ?_
    rintro e w' ⟨rfl, rfl⟩
    go_wp2_with fail
    refine (check_no 500000003 _ (by omega) (by omega) (.inr (Int.le_refl _))).mono ?_
    rintro e w' ⟨rfl, rfl⟩
    go_wp2_with fail
    with_reducible refine (H_q2.out _ _ ⟨H_hl7.out, (by repeat' (first | with_reducible exact k | with_reducible refine CellsAt.setFar ?_ ?_ _ | with_reducible refine CellsAt.alloc ?_ _ | with_reducible refine CellsAt.drew ?_ | with_reducible refine CellsAt.drewN ?_ _ | assumption | (simp; omega) | omega)), H_m8.out⟩ (H_wf.out _ (by repeat' (first | with_reducible exact hb3 | with_reducible refine Below.drew ?_ | with_reducible refine below_drewN ?_ _ | with_reducible refine Below.alloc ?_ (by have := hb3.size; first | (simp; done) | (simp; omega) | omega) _ | with_reducible refine Below.setCell ?_ (by first | (simp; done) | (simp; omega) | omega) _)))).mono ?_
    rintro e w4 ⟨rfl, hc4⟩
    have hb4 : Below w.heap.size w w4 := bchain (by repeat' (first | with_reducible exact hb3 | with_reducible refine Below.drew ?_ | with_reducible refine below_drewN ?_ _ | with_reducible refine Below.alloc ?_ (by have := hb3.size; first | (simp; done) | (simp; omega) | omega) _ | with_reducible refine Below.setCell ?_ (by first | (simp; done) | (simp; omega) | omega) _)) hc4
    have hst4 : Below w3.heap.size w3 w4 := bchain (by repeat' (first | with_reducible exact Below.refl _ _ | with_reducible refine Below.drew ?_ | with_reducible refine below_drewN ?_ _ | with_reducible refine Below.alloc ?_ (by first | (simp; done) | (simp; omega) | omega) _ | with_reducible refine Below.setCell ?_ (by first | (simp; done) | (simp; omega) | omega) _)) hc4
    have P_0 : w4.cell? ⟨w3.heap.size, 0, none⟩ = some (.int .u32 E) := (hc4.cell (p := ⟨w3.heap.size, 0, none⟩) (by first | (simp; done) | (simp; omega))).trans (by first | (simp; done) | go_simp)
    have P_1 : w4.cell? ⟨w3.heap.size, 1, none⟩ = some (.int .u32 S) := (hc4.cell (p := ⟨w3.heap.size, 1, none⟩) (by first | (simp; done) | (simp; omega))).trans (by first | (simp; done) | go_simp)
    have P_l : w3.heap.size < w4.heap.size := Nat.lt_of_lt_of_le (by first | (simp; done) | (simp; omega)) hc4.size
    have X_0 : w4.cell? ⟨w3.heap.size + 1 + 1, 0, none⟩ = some (.int .u32 E) := (hc4.cell (p := ⟨w3.heap.size + 1 + 1, 0, none⟩) (by first | (simp; done) | (simp; omega))).trans (by first | (simp; done) | go_simp)
    have X_1 : w4.cell? ⟨w3.heap.size + 1 + 1, 1, none⟩ = some (.int .u32 (S + 500000003)) := (hc4.cell (p := ⟨w3.heap.size + 1 + 1, 1, none⟩) (by first | (simp; done) | (simp; omega))).trans (by first | (simp; done) | go_simp)
    have X_l : w3.heap.size + 1 + 1 < w4.heap.size := Nat.lt_of_lt_of_le (by first | (simp; done) | (simp; omega)) hc4.size
    have Y_0 : w4.cell? ⟨w3.heap.size + 1, 0, none⟩ = some (.int .u32 (E + 500000003)) := (hc4.cell (p := ⟨w3.heap.size + 1, 0, none⟩) (by first | (simp; done) | (simp; omega))).trans (by first | (simp; done) | go_simp)
    have Y_1 : w4.cell? ⟨w3.heap.size + 1, 1, none⟩ = some (.int .u32 S) := (hc4.cell (p := ⟨w3.heap.size + 1, 1, none⟩) (by first | (simp; done) | (simp; omega))).trans (by first | (simp; done) | go_simp)
    have Y_l : w3.heap.size + 1 < w4.heap.size := Nat.lt_of_lt_of_le (by first | (simp; done) | (simp; omega)) hc4.size
    replace k := k.later hst4
    clear hst4
    clear hc4 hb3
    go_wp2_with fail
    with_reducible refine (H_q3.out _ _ ⟨H_hl7.out, (by repeat' (first | with_reducible exact k | with_reducible refine CellsAt.setFar ?_ ?_ _ | with_reducible refine CellsAt.alloc ?_ _ | with_reducible refine CellsAt.drew ?_ | with_reducible refine CellsAt.drewN ?_ _ | assumption | (simp; omega) | omega)), H_m8.out⟩ (H_wf.out _ (by repeat' (first | with_reducible exact hb4 | with_reducible refine Below.drew ?_ | with_reducible refine below_drewN ?_ _ | with_reducible refine Below.alloc ?_ (by have := hb4.size; first | (simp; done) | (simp; omega) | omega) _ | with_reducible refine Below.setCell ?_ (by first | (simp; done) | (simp; omega) | omega) _)))).mono ?_
    rintro e w5 ⟨rfl, hc5⟩
    have hb5 : Below w.heap.size w w5 := bchain (by repeat' (first | with_reducible exact hb4 | with_reducible refine Below.drew ?_ | with_reducible refine below_drewN ?_ _ | with_reducible refine Below.alloc ?_ (by have := hb4.size; first | (simp; done) | (simp; omega) | omega) _ | with_reducible refine Below.setCell ?_ (by first | (simp; done) | (simp; omega) | omega) _)) hc5
    have hst5 : Below w4.heap.size w4 w5 := bchain (by repeat' (first | with_reducible exact Below.refl _ _ | with_reducible refine Below.drew ?_ | with_reducible refine below_drewN ?_ _ | with_reducible refine Below.alloc ?_ (by first | (simp; done) | (simp; omega) | omega) _ | with_reducible refine Below.setCell ?_ (by first | (simp; done) | (simp; omega) | omega) _)) hc5
    replace P_0 := cell_later hst5 P_0
    replace P_1 := cell_later hst5 P_1
    replace P_l := Nat.lt_of_lt_of_le P_l hst5.size
    replace X_0 := cell_later hst5 X_0
    replace X_1 := cell_later hst5 X_1
    replace X_l := Nat.lt_of_lt_of_le X_l hst5.size
    replace Y_0 := cell_later hst5 Y_0
    replace Y_1 := cell_later hst5 Y_1
    replace Y_l := Nat.lt_of_lt_of_le Y_l hst5.size
    replace k := k.later hst5
    clear hst5
    clear hc5 hb4
    go_wp2_with fail
    with_reducible refine (H_q4.out _ _ ⟨H_hl7.out, (by repeat' (first | with_reducible exact k | with_reducible refine CellsAt.setFar ?_ ?_ _ | with_reducible refine CellsAt.alloc ?_ _ | with_reducible refine CellsAt.drew ?_ | with_reducible refine CellsAt.drewN ?_ _ | assumption | (simp; omega) | omega)), H_m8.out⟩ (H_wf.out _ (by repeat' (first | with_reducible exact hb5 | with_reducible refine Below.drew ?_ | with_reducible refine below_drewN ?_ _ | with_reducible refine Below.alloc ?_ (by have := hb5.size; first | (simp; done) | (simp; omega) | omega) _ | with_reducible refine Below.setCell ?_ (by first | (simp; done) | (simp; omega) | omega) _)))).mono ?_
    rintro e w6 ⟨rfl, hc6⟩
    have hb6 : Below w.heap.size w w6 := bchain (by repeat' (first | with_reducible exact hb5 | with_reducible refine Below.drew ?_ | with_reducible refine below_drewN ?_ _ | with_reducible refine Below.alloc ?_ (by have := hb5.size; first | (simp; done) | (simp; omega) | omega) _ | with_reducible refine Below.setCell ?_ (by first | (simp; done) | (simp; omega) | omega) _)) hc6
    have hst6 : Below w5.heap.size w5 w6 := bchain (by repeat' (first | with_reducible exact Below.refl _ _ | with_reducible refine Below.drew ?_ | with_reducible refine below_drewN ?_ _ | with_reducible refine Below.alloc ?_ (by first | (simp; done) | (simp; omega) | omega) _ | with_reducible refine Below.setCell ?_ (by first | (simp; done) | (simp; omega) | omega) _)) hc6
    replace P_0 := cell_later hst6 P_0
    replace P_1 := cell_later hst6 P_1
    replace P_l := Nat.lt_of_lt_of_le P_l hst6.size
    replace X_0 := cell_later hst6 X_0
    replace X_1 := cell_later hst6 X_1
    replace X_l := Nat.lt_of_lt_of_le X_l hst6.size
    replace Y_0 := cell_later hst6 Y_0
    replace Y_1 := cell_later hst6 Y_1
    replace Y_l := Nat.lt_of_lt_of_le Y_l hst6.size
    replace k := k.later hst6
    clear hst6
    clear hc6 hb5
    go_wp2_with fail
    go_ret
    exact ⟨rfl, by repeat' (first | with_reducible exact hb6 | with_reducible refine Below.drew ?_ | with_reducible refine below_drewN ?_ _ | with_reducible refine Below.alloc ?_ (by have := hb6.size; first | (simp; done) | (simp; omega) | omega) _ | with_reducible refine Below.setCell ?_ (by first | (simp; done) | (simp; omega) | omega) _)⟩

set_option maxRecDepth 100000 in
set_option maxHeartbeats 1000000 in
theorem keys_bad (a b : Int) (w : World) (a0 : 0 ≤ a) (a4 : a < 4294967296) (b0 : 0 ≤ b) (b4 : b < 4294967296) (hT : TabK w) (h : badS a ∨ badS b) :
    Calls Tryd.prog 8 #[.int .u32 a, .int .u32 b] w fun e w' =>
      e = .returned (.bool true) ∧ Below w.heap.size w w' := by
  by_cases hA : badS a
  · have H_h := Box.mk h
    have H_hA := Box.mk hA
    have H_hT := Box.mk hT
    clear h hA hT
    go_enter Tryd.func8, Tryd.ntmps8
    have hb0 := Below.refl w.heap.size w
    go_wp2_with fail
    refine (rcheck_no a _ a0 a4 H_hA.out).mono ?_
    rintro e w' ⟨rfl, rfl⟩
    go_wp2_with fail
    with_reducible refine (alive_any _ H_hT.out).mono ?_
    rintro e w1 ⟨rfl, hc1⟩
    have hb1 : Below w.heap.size w w1 := bchain (by repeat' (first | with_reducible exact hb0 | with_reducible refine Below.drew ?_ | with_reducible refine below_drewN ?_ _ | with_reducible refine Below.alloc ?_ (by have := hb0.size; first | (simp; done) | (simp; omega) | omega) _ | with_reducible refine Below.setCell ?_ (by first | (simp; done) | (simp; omega) | omega) _)) hc1
    clear hc1 hb0
    go_wp2_with fail
    go_ret
    exact ⟨rfl, by repeat' (first | with_reducible exact hb1 | with_reducible refine Below.drew ?_ | with_reducible refine below_drewN ?_ _ | with_reducible refine Below.alloc ?_ (by have := hb1.size; first | (simp; done) | (simp; omega) | omega) _ | with_reducible refine Below.setCell ?_ (by first | (simp; done) | (simp; omega) | omega) _)⟩
  · have hg := good_of a0 hA
    have hB : badS b := h.resolve_left hA
    obtain ⟨g1, g2⟩ := hg
    have H_h := Box.mk h
    have H_hA := Box.mk hA
    have H_hB := Box.mk hB
    have H_hT := Box.mk hT
    clear h hA hB hT
    go_enter Tryd.func8, Tryd.ntmps8
    have hb0 := Below.refl w.heap.size w
    go_wp2_with fail
    refine (rcheck_ok a _ g1 g2).mono ?_
    rintro e w' ⟨rfl, rfl⟩
    go_wp2_with fail
    refine (rcheck_no b _ b0 b4 H_hB.out).mono ?_
    rintro e w' ⟨rfl, rfl⟩
    go_wp2_with fail
    with_reducible refine (alive_any _ H_hT.out).mono ?_
    rintro e w1 ⟨rfl, hc1⟩
    have hb1 : Below w.heap.size w w1 := bchain (by repeat' (first | with_reducible exact hb0 | with_reducible refine Below.drew ?_ | with_reducible refine below_drewN ?_ _ | with_reducible refine Below.alloc ?_ (by have := hb0.size; first | (simp; done) | (simp; omega) | omega) _ | with_reducible refine Below.setCell ?_ (by first | (simp; done) | (simp; omega) | omega) _)) hc1
    clear hc1 hb0
    go_wp2_with fail
    go_ret
    exact ⟨rfl, by repeat' (first | with_reducible exact hb1 | with_reducible refine Below.drew ?_ | with_reducible refine below_drewN ?_ _ | with_reducible refine Below.alloc ?_ (by have := hb1.size; first | (simp; done) | (simp; omega) | omega) _ | with_reducible refine Below.setCell ?_ (by first | (simp; done) | (simp; omega) | omega) _)⟩

set_option maxRecDepth 100000 in
set_option maxHeartbeats 1000000 in
theorem keys_good (a b : Int) (w : World) (a1 : 1 ≤ a) (a2 : a < 500000003) (b1 : 1 ≤ b) (b2 : b < 500000003) (hT : TabK w) :
    Calls Tryd.prog 8 #[.int .u32 a, .int .u32 b] w fun e w' =>
      e = .returned (.bool true) ∧ Below w.heap.size w w' := by
  obtain ⟨X, hX⟩ : ∃ X, pubK a = X := ⟨_, rfl⟩
  obtain ⟨Y, hY⟩ : ∃ Y, pubK b = Y := ⟨_, rfl⟩
  have x1 := pubK_one a1 a2
  have xr := pubK_rng a
  have xB := pubK_in a
  rw [hX] at x1 xr xB
  have q : ∀ W, Calls Tryd.prog 24 #[.int .u32 X] W fun e w' => e = .returned (.bool true) ∧ Below W.heap.size W w' := fun W => by have := is_any X W xr.1 (by omega); rw [xB] at this; exact this
  have p1 : ∀ W, Calls Tryd.prog 12 #[.int .u32 a] W fun e w' => e = .returned (.tuple #[.int .u32 X, .int .i64 0]) ∧ Below W.heap.size W w' := fun W => hX ▸ public_ok a W a1 a2
  have p2 : ∀ W, Calls Tryd.prog 12 #[.int .u32 b] W fun e w' => e = .returned (.tuple #[.int .u32 Y, .int .i64 0]) ∧ Below W.heap.size W w' := fun W => hY ▸ public_ok b W b1 b2
  have wf : ∀ W, Below w.heap.size w W → TabK W := fun W h => hT.later h
  have hx1 : (X != 1) = true := bne_iff_ne.2 x1
  by_cases hab : a = b
  · obtain rfl : X = Y := by rw [← hX, ← hY, hab]
    subst hab
    have H_hX := Box.mk hX
    have H_hY := Box.mk hY
    have H_xB := Box.mk xB
    have H_q := Box.mk q
    have H_p1 := Box.mk p1
    have H_p2 := Box.mk p2
    have H_wf := Box.mk wf
    have H_hT := Box.mk hT
    clear hX hY xB q p1 p2 wf hT
    go_enter Tryd.func8, Tryd.ntmps8
    have hb0 := Below.refl w.heap.size w
    go_wp2_with fail
    refine (rcheck_ok a _ a1 a2).mono ?_
    rintro e w' ⟨rfl, rfl⟩
    go_wp2_with fail
    refine (rcheck_ok a _ a1 a2).mono ?_
    rintro e w' ⟨rfl, rfl⟩
    go_wp2_with fail
    with_reducible refine (H_p1.out _).mono ?_
    rintro e w1 ⟨rfl, hc1⟩
    have hb1 : Below w.heap.size w w1 := bchain (by repeat' (first | with_reducible exact hb0 | with_reducible refine Below.drew ?_ | with_reducible refine below_drewN ?_ _ | with_reducible refine Below.alloc ?_ (by have := hb0.size; first | (simp; done) | (simp; omega) | omega) _ | with_reducible refine Below.setCell ?_ (by first | (simp; done) | (simp; omega) | omega) _)) hc1
    clear hc1 hb0
    go_wp2_with fail
    with_reducible refine (H_p2.out _).mono ?_
    rintro e w2 ⟨rfl, hc2⟩
    have hb2 : Below w.heap.size w w2 := bchain (by repeat' (first | with_reducible exact hb1 | with_reducible refine Below.drew ?_ | with_reducible refine below_drewN ?_ _ | with_reducible refine Below.alloc ?_ (by have := hb1.size; first | (simp; done) | (simp; omega) | omega) _ | with_reducible refine Below.setCell ?_ (by first | (simp; done) | (simp; omega) | omega) _)) hc2
    clear hc2 hb1
    go_wp2_with fail
    with_reducible refine (H_q.out _).mono ?_
    rintro e w3 ⟨rfl, hc3⟩
    have hb3 : Below w.heap.size w w3 := bchain (by repeat' (first | with_reducible exact hb2 | with_reducible refine Below.drew ?_ | with_reducible refine below_drewN ?_ _ | with_reducible refine Below.alloc ?_ (by have := hb2.size; first | (simp; done) | (simp; omega) | omega) _ | with_reducible refine Below.setCell ?_ (by first | (simp; done) | (simp; omega) | omega) _)) hc3
    clear hc3 hb2
    go_wp2_with fail
    with_reducible refine (alive_any _ (H_wf.out _ hb3)).mono ?_
    rintro e w4 ⟨rfl, hc4⟩
    have hb4 : Below w.heap.size w w4 := bchain (by repeat' (first | with_reducible exact hb3 | with_reducible refine Below.drew ?_ | with_reducible refine below_drewN ?_ _ | with_reducible refine Below.alloc ?_ (by have := hb3.size; first | (simp; done) | (simp; omega) | omega) _ | with_reducible refine Below.setCell ?_ (by first | (simp; done) | (simp; omega) | omega) _)) hc4
    clear hc4 hb3
    go_wp2_with fail
    go_ret
    exact ⟨rfl, by repeat' (first | with_reducible exact hb4 | with_reducible refine Below.drew ?_ | with_reducible refine below_drewN ?_ _ | with_reducible refine Below.alloc ?_ (by have := hb4.size; first | (simp; done) | (simp; omega) | omega) _ | with_reducible refine Below.setCell ?_ (by first | (simp; done) | (simp; omega) | omega) _)⟩
  · have hXY : ¬ X = Y := by rw [← hX, ← hY]; exact pubK_ne a1 a2 b1 b2 hab
    have h1 : (X == Y) = false := beq_eq_false_iff_ne.2 hXY
    have h2 : (a == b) = false := beq_eq_false_iff_ne.2 hab
    have H_hX := Box.mk hX
    have H_hY := Box.mk hY
    have H_xB := Box.mk xB
    have H_q := Box.mk q
    have H_p1 := Box.mk p1
    have H_p2 := Box.mk p2
    have H_wf := Box.mk wf
    have H_hT := Box.mk hT
    clear hX hY xB q p1 p2 wf hT
    go_enter Tryd.func8, Tryd.ntmps8
    have hb0 := Below.refl w.heap.size w
    go_wp2_with fail
    refine (rcheck_ok a _ a1 a2).mono ?_
    rintro e w' ⟨rfl, rfl⟩
    go_wp2_with fail
    refine (rcheck_ok b _ b1 b2).mono ?_
    rintro e w' ⟨rfl, rfl⟩
    go_wp2_with fail
    with_reducible refine (H_p1.out _).mono ?_
    rintro e w1 ⟨rfl, hc1⟩
    have hb1 : Below w.heap.size w w1 := bchain (by repeat' (first | with_reducible exact hb0 | with_reducible refine Below.drew ?_ | with_reducible refine below_drewN ?_ _ | with_reducible refine Below.alloc ?_ (by have := hb0.size; first | (simp; done) | (simp; omega) | omega) _ | with_reducible refine Below.setCell ?_ (by first | (simp; done) | (simp; omega) | omega) _)) hc1
    clear hc1 hb0
    go_wp2_with fail
    with_reducible refine (H_p2.out _).mono ?_
    rintro e w2 ⟨rfl, hc2⟩
    have hb2 : Below w.heap.size w w2 := bchain (by repeat' (first | with_reducible exact hb1 | with_reducible refine Below.drew ?_ | with_reducible refine below_drewN ?_ _ | with_reducible refine Below.alloc ?_ (by have := hb1.size; first | (simp; done) | (simp; omega) | omega) _ | with_reducible refine Below.setCell ?_ (by first | (simp; done) | (simp; omega) | omega) _)) hc2
    clear hc2 hb1
    go_wp2_with fail
    with_reducible refine (H_q.out _).mono ?_
    rintro e w3 ⟨rfl, hc3⟩
    have hb3 : Below w.heap.size w w3 := bchain (by repeat' (first | with_reducible exact hb2 | with_reducible refine Below.drew ?_ | with_reducible refine below_drewN ?_ _ | with_reducible refine Below.alloc ?_ (by have := hb2.size; first | (simp; done) | (simp; omega) | omega) _ | with_reducible refine Below.setCell ?_ (by first | (simp; done) | (simp; omega) | omega) _)) hc3
    clear hc3 hb2
    go_wp2_with fail
    with_reducible refine (alive_any _ (H_wf.out _ hb3)).mono ?_
    rintro e w4 ⟨rfl, hc4⟩
    have hb4 : Below w.heap.size w w4 := bchain (by repeat' (first | with_reducible exact hb3 | with_reducible refine Below.drew ?_ | with_reducible refine below_drewN ?_ _ | with_reducible refine Below.alloc ?_ (by have := hb3.size; first | (simp; done) | (simp; omega) | omega) _ | with_reducible refine Below.setCell ?_ (by first | (simp; done) | (simp; omega) | omega) _)) hc4
    clear hc4 hb3
    go_wp2_with fail
    go_ret
    exact ⟨rfl, by repeat' (first | with_reducible exact hb4 | with_reducible refine Below.drew ?_ | with_reducible refine below_drewN ?_ _ | with_reducible refine Below.alloc ?_ (by have := hb4.size; first | (simp; done) | (simp; omega) | omega) _ | with_reducible refine Below.setCell ?_ (by first | (simp; done) | (simp; omega) | omega) _)⟩

/-- SignKeys returns true. -/
theorem keys_full (a b : Int) (w : World) (ha : (Lit.int .u32 a).wf = true) (hb : (Lit.int .u32 b).wf = true)
    (hK : CellsAt w (some ⟨0, 0, none⟩) (kcs.map (Value.int .u32)) ∧ 0 < w.heap.size) :
    Calls Tryd.prog 8 #[.int .u32 a, .int .u32 b] w fun e w' =>
      e = .returned (.bool true) ∧ Below w.heap.size w w' := by
  have h1 := bd_u32 ha
  have h2 := bd_u32 hb
  by_cases h : badS a ∨ badS b
  · exact keys_bad a b w h1.1 h1.2 h2.1 h2.2 ⟨hK.1, hK.2⟩ h
  · have g1 := good_of h1.1 (fun x => h (.inl x))
    have g2 := good_of h2.1 (fun x => h (.inr x))
    exact keys_good a b w g1.1 g1.2 g2.1 g2.2 ⟨hK.1, hK.2⟩

end Go.Proofs.YtdlacedminebdaaDoor
