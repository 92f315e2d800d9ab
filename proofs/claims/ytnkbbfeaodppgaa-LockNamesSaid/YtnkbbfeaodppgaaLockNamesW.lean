/- The law LockNames: limits and errors. -/
import Derived.Test.YtnkbbfeaodppgaaLockAloneW
namespace Go.Proofs.Ytnkbbfeaodppgaa
set_option linter.unusedSimpArgs false
set_option linter.unusedVariables false
set_option linter.unnecessarySimpa false
open Go.RowKit

def badW : Nat → Int
  | 0 => -2 | 1 => 12 | 5 => 1 | 7 => 1 | 8 => 1 | 9 => 1 | _ => -1
def badR : Nat → List Int
  | 2 => [12] | 3 => [1, 1] | 4 => [2, 1] | 5 => [2] | 10 => [1] | _ => []
def badQ : Nat → Waits
  | 6 => [(1, false)] | 7 => [(1, false)] | 8 => [(12, false)] | 9 => [(2, false), (2, true)] | 10 => [(2, false)] | _ => []
theorem bad_err : ∀ t, t < 11 → lockErr (badW t) (badR t) (badQ t) = 8 := by decide +kernel
/-- A lock in a row, at place k. -/
def At3 (w : World) (B k : Nat) (W : Int) (ra : Option Addr) (rn rc : Nat) (qa : Option Addr) (qn qc : Nat) : Prop := w.cell? ⟨B, k * 3, none⟩ = some (.int .i64 W) ∧ w.cell? ⟨B, k * 3 + 1, none⟩ = some (.slice ra rn rc) ∧ w.cell? ⟨B, k * 3 + 2, none⟩ = some (.slice qa qn qc)
theorem At3.later {w w' : World} {B k : Nat} {W : Int} {ra : Option Addr} {rn rc : Nat} {qa : Option Addr} {qn qc : Nat} (h : At3 w B k W ra rn rc qa qn qc) (hb : Below w.heap.size w w') : At3 w' B k W ra rn rc qa qn qc :=
  ⟨cell_later hb h.1, cell_later hb h.2.1, cell_later hb h.2.2⟩
/-- The row of bad locks. -/
def BadRow (w : World) (B : Nat) : Prop := ∀ t, t < 11 → ∃ ra rn rc qa qn qc, At3 w B t (badW t) ra rn rc qa qn qc ∧ LockIn w (badR t) (badQ t) ra qa rn qn ∧ rn + qn ≤ 10
theorem BadRow.later {w w' : World} {B : Nat} (h : BadRow w B) (hb : Below w.heap.size w w') : BadRow w' B := fun t ht => by
  obtain ⟨ra, rn, rc, qa, qn, qc, h0, h1, h2⟩ := h t ht
  exact ⟨ra, rn, rc, qa, qn, qc, h0.later hb, h1.later hb, h2⟩
def badCells (a2 a3 a4 a5 q6 q7 q8 q9 a10 q10 : Addr) : List Value := [.int .i64 (-2), .slice none 0 0, .slice none 0 0, .int .i64 12, .slice none 0 0, .slice none 0 0, .int .i64 (-1), .slice (some a2) 1 1, .slice none 0 0, .int .i64 (-1), .slice (some a3) 2 2, .slice none 0 0, .int .i64 (-1), .slice (some a4) 2 2, .slice none 0 0, .int .i64 1, .slice (some a5) 1 1, .slice none 0 0, .int .i64 (-1), .slice none 0 0, .slice (some q6) 1 1, .int .i64 1, .slice none 0 0, .slice (some q7) 1 1, .int .i64 1, .slice none 0 0, .slice (some q8) 1 1, .int .i64 1, .slice none 0 0, .slice (some q9) 2 2, .int .i64 (-1), .slice (some a10) 1 1, .slice (some q10) 1 1]
theorem BadRow.of {w : World} {B : Nat} {a2 a3 a4 a5 q6 q7 q8 q9 a10 q10 : Addr} (h : CellsAt w (some ⟨B, 0, none⟩) (badCells a2 a3 a4 a5 q6 q7 q8 q9 a10 q10))
    (h2 : CellsAt w (some a2) [.int .i64 12]) (h3 : CellsAt w (some a3) [.int .i64 1, .int .i64 1]) (h4 : CellsAt w (some a4) [.int .i64 2, .int .i64 1]) (h5 : CellsAt w (some a5) [.int .i64 2])
    (h6 : CellsAt w (some q6) [.int .i64 1, .bool false]) (h7 : CellsAt w (some q7) [.int .i64 1, .bool false]) (h8 : CellsAt w (some q8) [.int .i64 12, .bool false]) (h9 : CellsAt w (some q9) [.int .i64 2, .bool false, .int .i64 2, .bool true])
    (h10 : CellsAt w (some a10) [.int .i64 1]) (k10 : CellsAt w (some q10) [.int .i64 2, .bool false]) : BadRow w B := by
  have key : ∀ j u, (badCells a2 a3 a4 a5 q6 q7 q8 q9 a10 q10)[j]? = some u → w.cell? ⟨B, j, none⟩ = some u := fun j u hj => by
    rcases h with h | ⟨b, o, ha, h⟩
    · cases h
    · cases ha
      have := h j u hj
      rwa [Nat.zero_add] at this
  intro t ht
  match t, ht with
  | 0, _ => exact ⟨none, 0, 0, none, 0, 0, ⟨key 0 _ rfl, key 1 _ rfl, key 2 _ rfl⟩, ⟨rfl, rfl, .inl rfl, .inl rfl, by omega, by omega⟩, by omega⟩
  | 1, _ => exact ⟨none, 0, 0, none, 0, 0, ⟨key 3 _ rfl, key 4 _ rfl, key 5 _ rfl⟩, ⟨rfl, rfl, .inl rfl, .inl rfl, by omega, by omega⟩, by omega⟩
  | 2, _ => exact ⟨some a2, 1, 1, none, 0, 0, ⟨key 6 _ rfl, key 7 _ rfl, key 8 _ rfl⟩, ⟨rfl, rfl, h2, .inl rfl, by omega, by omega⟩, by omega⟩
  | 3, _ => exact ⟨some a3, 2, 2, none, 0, 0, ⟨key 9 _ rfl, key 10 _ rfl, key 11 _ rfl⟩, ⟨rfl, rfl, h3, .inl rfl, by omega, by omega⟩, by omega⟩
  | 4, _ => exact ⟨some a4, 2, 2, none, 0, 0, ⟨key 12 _ rfl, key 13 _ rfl, key 14 _ rfl⟩, ⟨rfl, rfl, h4, .inl rfl, by omega, by omega⟩, by omega⟩
  | 5, _ => exact ⟨some a5, 1, 1, none, 0, 0, ⟨key 15 _ rfl, key 16 _ rfl, key 17 _ rfl⟩, ⟨rfl, rfl, h5, .inl rfl, by omega, by omega⟩, by omega⟩
  | 6, _ => exact ⟨none, 0, 0, some q6, 1, 1, ⟨key 18 _ rfl, key 19 _ rfl, key 20 _ rfl⟩, ⟨rfl, rfl, .inl rfl, h6, by omega, by omega⟩, by omega⟩
  | 7, _ => exact ⟨none, 0, 0, some q7, 1, 1, ⟨key 21 _ rfl, key 22 _ rfl, key 23 _ rfl⟩, ⟨rfl, rfl, .inl rfl, h7, by omega, by omega⟩, by omega⟩
  | 8, _ => exact ⟨none, 0, 0, some q8, 1, 1, ⟨key 24 _ rfl, key 25 _ rfl, key 26 _ rfl⟩, ⟨rfl, rfl, .inl rfl, h8, by omega, by omega⟩, by omega⟩
  | 9, _ => exact ⟨none, 0, 0, some q9, 2, 2, ⟨key 27 _ rfl, key 28 _ rfl, key 29 _ rfl⟩, ⟨rfl, rfl, .inl rfl, h9, by omega, by omega⟩, by omega⟩
  | 10, _ => exact ⟨some a10, 1, 1, some q10, 1, 1, ⟨key 30 _ rfl, key 31 _ rfl, key 32 _ rfl⟩, ⟨rfl, rfl, h10, k10, by omega, by omega⟩, by omega⟩
theorem cellsAt_top {w : World} {b : Nat} {xs : List Value} {t : TypeId} (h : w.heap.size = b) : CellsAt (w.alloc (.cells xs.toArray t)) (some ⟨b, 0, none⟩) xs := (Blk.new w b xs t h).cellsAt
theorem bad_ask {W : Int} {rs : List Int} {q : Waits} (h : lockErr W rs q = 8) (t : Int) (b : Bool) : askZ W rs q t b = ((0, [], []), false, 8) := by
  have hb : bothZ W rs q t = 8 := by unfold bothZ; rw [if_pos h]
  unfold askZ; rw [hb, if_pos (by decide)]; rfl
theorem holds_r (W t : Int) (rs : List Int) (q : Waits) (y er : Int) (ra qa : Option Addr) (rn rc qn qc : Nat) (w : World) (h : LockIn w rs q ra qa rn qn) (hr : holdsZ W rs q t = (y, er)) :
    Calls Try.prog 22 #[.agg #[.int .i64 W, .slice ra rn rc, .slice qa qn qc], .int .i64 t] w fun e w' =>
      e = .returned (.tuple #[.int .i64 y, .int .i64 er]) ∧ Below w.heap.size w w' := by
  have := Holds_any W t rs q ra qa rn rc qn qc w h
  rw [hr] at this
  exact this
theorem bad_holds {W : Int} {rs : List Int} {q : Waits} (h : lockErr W rs q = 8) (t : Int) : holdsZ W rs q t = (0, 8) := by
  have hb : bothZ W rs q t = 8 := by unfold bothZ; rw [if_pos h]
  unfold holdsZ; rw [hb, if_neg (by decide)]
theorem check_r (W er : Int) (rs : List Int) (q : Waits) (ra qa : Option Addr) (rn rc qn qc : Nat) (w : World) (h : LockIn w rs q ra qa rn qn) (hr : lockErr W rs q = er) :
    Calls Try.prog 24 #[.agg #[.int .i64 W, .slice ra rn rc, .slice qa qn qc]] w fun e w' =>
      e = .returned (.int .i64 er) ∧ Below w.heap.size w w' := hr ▸ check_any W rs q ra qa rn rc qn qc w h

set_option maxRecDepth 100000 in
set_option maxHeartbeats 10000000 in
theorem names_walk (w : World) :
    Calls Try.prog 6 #[] w fun e w' =>
      e = .returned (.bool true) ∧ Below w.heap.size w w' := by
  go_enter Try.func6, Try.ntmps6
  have hb0 := Below.refl w.heap.size w
  go_wp2_with fail
  refine wp_gen fun w1 hc1 => ?_
  have hB : BadRow w1 (w.heap.size + 1 + 1 + 1 + 1 + 1 + 1 + 1 + 1 + 1 + 1) := by
    refine BadRow.later (BadRow.of (a2 := ⟨w.heap.size, 0, none⟩) (a3 := ⟨w.heap.size + 1, 0, none⟩) (a4 := ⟨w.heap.size + 1 + 1, 0, none⟩) (a5 := ⟨w.heap.size + 1 + 1 + 1, 0, none⟩) (q6 := ⟨w.heap.size + 1 + 1 + 1 + 1, 0, none⟩) (q7 := ⟨w.heap.size + 1 + 1 + 1 + 1 + 1, 0, none⟩) (q8 := ⟨w.heap.size + 1 + 1 + 1 + 1 + 1 + 1, 0, none⟩) (q9 := ⟨w.heap.size + 1 + 1 + 1 + 1 + 1 + 1 + 1, 0, none⟩) (a10 := ⟨w.heap.size + 1 + 1 + 1 + 1 + 1 + 1 + 1 + 1, 0, none⟩) (q10 := ⟨w.heap.size + 1 + 1 + 1 + 1 + 1 + 1 + 1 + 1 + 1, 0, none⟩) ?_ ?_ ?_ ?_ ?_ ?_ ?_ ?_ ?_ ?_ ?_) hc1
    · exact cellsAt_top (xs := badCells _ _ _ _ _ _ _ _ _ _) (by simp)
    all_goals repeat (first | (refine cellsAt_top ?_; simp; done) | refine CellsAt.alloc ?_ _)
  have hb1 : Below w.heap.size w w1 := bchain (by repeat' (first | with_reducible exact hb0 | with_reducible refine Below.drew ?_ | with_reducible refine below_drewN ?_ _ | with_reducible refine Below.alloc ?_ (by have := hb0.size; first | (simp; done) | (simp; omega) | omega) _ | with_reducible refine Below.setCell ?_ (by first | (simp; done) | (simp; omega) | omega) _)) hc1
  obtain ⟨B, hBe⟩ : ∃ B, B = w.heap.size + 1 + 1 + 1 + 1 + 1 + 1 + 1 + 1 + 1 + 1 := ⟨_, rfl⟩
  rw [← hBe] at hB
  rw [← hBe]
  clear hBe hc1
  go_loopw [2] (fun i wr => ∃ k : Nat, k ≤ 11 ∧ i = .int .i64 k ∧ Below w.heap.size w wr ∧ BadRow wr B) (fun i _ => 11 - (intOf i).toNat)
  case atStart => exact ⟨0, by omega, rfl, hb1, hB⟩
  case round =>
    obtain ⟨k, hk, rfl, hbw, hB⟩ := hrel
    by_cases hlt : k < 11
    · have hlt' : (k : Int) < 11 := by omega
      obtain ⟨rb, rn, rc, qb, qn, qc, hR, hL, hm⟩ := hB k hlt
      have he := bad_err k hlt
      obtain ⟨W, hW⟩ : ∃ W, W = badW k := ⟨_, rfl⟩
      obtain ⟨rs, hrs⟩ : ∃ rs, rs = badR k := ⟨_, rfl⟩
      obtain ⟨q, hq⟩ : ∃ q, q = badQ k := ⟨_, rfl⟩
      rw [← hW] at hR he
      rw [← hrs] at hL he
      rw [← hq] at hL he
      clear hW hrs hq
      have H_he := Box.mk he
      clear he
      obtain ⟨h0, h1, h2⟩ := hR
      have zB := World.block_lt_of_cell? _ _ h0
      simp only at zB
      have qB := Nat.ne_of_lt zB
      have hR : At3 _ B k W rb rn rc qb qn qc := ⟨h0, h1, h2⟩
      go_wp2_with fail
      with_reducible refine (ask_r W (-1) true rs q 0 [] [] false 8 rb qb rn rc qn qc 0 0 _ hL (by omega) (bad_ask H_he.out _ _) rfl rfl).mono ?_
      rintro e w11 ⟨a1, c1, a2, c2, rfl, _, hc11⟩
      have hb11 : Below w.heap.size w w11 := bchain (by repeat' (first | with_reducible exact hbw | with_reducible refine Below.drew ?_ | with_reducible refine below_drewN ?_ _ | with_reducible refine Below.alloc ?_ (by have := hbw.size; first | (simp; done) | (simp; omega) | omega) _ | with_reducible refine Below.setCell ?_ (by first | (simp; done) | (simp; omega) | omega) _)) hc11
      have hst11 : Below wr.heap.size wr w11 := bchain (by repeat' (first | with_reducible exact Below.refl _ _ | with_reducible refine Below.drew ?_ | with_reducible refine below_drewN ?_ _ | with_reducible refine Below.alloc ?_ (by first | (simp; done) | (simp; omega) | omega) _ | with_reducible refine Below.setCell ?_ (by first | (simp; done) | (simp; omega) | omega) _)) hc11
      replace hB := hB.later hst11
      replace hL := hL.later hst11
      replace hR := hR.later hst11
      clear hst11
      clear hc11 hbw
      obtain ⟨h0, h1, h2⟩ := hR
      have zB := World.block_lt_of_cell? _ _ h0
      simp only at zB
      have qB := Nat.ne_of_lt zB
      have hR : At3 _ B k W rb rn rc qb qn qc := ⟨h0, h1, h2⟩
      go_wp2_with fail
      with_reducible refine (holds_r W 12 rs q 0 8 rb qb rn rc qn qc _ (hL.later (below_alloc _ _)) (bad_holds H_he.out _)).mono ?_
      rintro e w12 ⟨rfl, hc12⟩
      have hb12 : Below w.heap.size w w12 := bchain (by repeat' (first | with_reducible exact hb11 | with_reducible refine Below.drew ?_ | with_reducible refine below_drewN ?_ _ | with_reducible refine Below.alloc ?_ (by have := hb11.size; first | (simp; done) | (simp; omega) | omega) _ | with_reducible refine Below.setCell ?_ (by first | (simp; done) | (simp; omega) | omega) _)) hc12
      have hst12 : Below w11.heap.size w11 w12 := bchain (by repeat' (first | with_reducible exact Below.refl _ _ | with_reducible refine Below.drew ?_ | with_reducible refine below_drewN ?_ _ | with_reducible refine Below.alloc ?_ (by first | (simp; done) | (simp; omega) | omega) _ | with_reducible refine Below.setCell ?_ (by first | (simp; done) | (simp; omega) | omega) _)) hc12
      replace hB := hB.later hst12
      replace hL := hL.later hst12
      replace hR := hR.later hst12
      clear hst12
      clear hc12 hb11
      obtain ⟨h0, h1, h2⟩ := hR
      have zB := World.block_lt_of_cell? _ _ h0
      simp only at zB
      have qB := Nat.ne_of_lt zB
      have hR : At3 _ B k W rb rn rc qb qn qc := ⟨h0, h1, h2⟩
      go_wp2_with fail
      with_reducible refine (check_r W 8 rs q rb qb rn rc qn qc _ hL H_he.out).mono ?_
      rintro e w13 ⟨rfl, hc13⟩
      have hb13 : Below w.heap.size w w13 := bchain (by repeat' (first | with_reducible exact hb12 | with_reducible refine Below.drew ?_ | with_reducible refine below_drewN ?_ _ | with_reducible refine Below.alloc ?_ (by have := hb12.size; first | (simp; done) | (simp; omega) | omega) _ | with_reducible refine Below.setCell ?_ (by first | (simp; done) | (simp; omega) | omega) _)) hc13
      have hst13 : Below w12.heap.size w12 w13 := bchain (by repeat' (first | with_reducible exact Below.refl _ _ | with_reducible refine Below.drew ?_ | with_reducible refine below_drewN ?_ _ | with_reducible refine Below.alloc ?_ (by first | (simp; done) | (simp; omega) | omega) _ | with_reducible refine Below.setCell ?_ (by first | (simp; done) | (simp; omega) | omega) _)) hc13
      replace hB := hB.later hst13
      replace hL := hL.later hst13
      replace hR := hR.later hst13
      clear hst13
      clear hc13 hb12
      clear h0 h1 h2
      go_wp2_with fail
      go_roundw
      case rel => exact ⟨k + 1, by omega, by go_num, hb13, hB⟩
      case measure => simp [intOf]; omega
    · obtain rfl : k = 11 := by omega
      clear hB
      go_upto_region 10 with (fail)
      refine wp_facts (fun Wx => Below w.heap.size w Wx ∧ Blk Wx (wr.heap.size + 1) 25 [.int .i64 11, .slice none 0 0, .slice (some ⟨wr.heap.size, 0, none⟩) 2 2] ∧ LockIn Wx [] [(3, false), (4, true)] none (some ⟨wr.heap.size, 0, none⟩) 0 2) ⟨(hbw.alloc hbw.size _).alloc (by have := hbw.size; simp; omega) _, Blk.new _ _ _ _ (by simp), ⟨rfl, rfl, .inl rfl, (cellsAt_top rfl).alloc _, by omega, by omega⟩⟩ ?_
      rintro w20 ⟨hb20, hLB, hL⟩
      clear hbw
      generalize wr.heap.size + 1 = Lb at *
      generalize wr.heap.size = q0 at *
      obtain ⟨L_0, L_1, L_2, _, _, _, L_l⟩ := blk3 hLB
      clear hLB
      go_wp2_with fail
      with_reducible refine (ask_r 11 12 true [] [(3, false), (4, true)] 0 [] [] false 2 none (some ⟨q0, 0, none⟩) 0 0 2 2 0 0 _ hL (by omega) (by decide +kernel) rfl rfl).mono ?_
      rintro e w21 ⟨a1, c1, a2, c2, rfl, _, hc21⟩
      have hb21 : Below w.heap.size w w21 := bchain (by repeat' (first | with_reducible exact hb20 | with_reducible refine Below.drew ?_ | with_reducible refine below_drewN ?_ _ | with_reducible refine Below.alloc ?_ (by have := hb20.size; first | (simp; done) | (simp; omega) | omega) _ | with_reducible refine Below.setCell ?_ (by first | (simp; done) | (simp; omega) | omega) _)) hc21
      have hst21 : Below w20.heap.size w20 w21 := bchain (by repeat' (first | with_reducible exact Below.refl _ _ | with_reducible refine Below.drew ?_ | with_reducible refine below_drewN ?_ _ | with_reducible refine Below.alloc ?_ (by first | (simp; done) | (simp; omega) | omega) _ | with_reducible refine Below.setCell ?_ (by first | (simp; done) | (simp; omega) | omega) _)) hc21
      replace L_0 := cell_later hst21 L_0
      replace L_1 := cell_later hst21 L_1
      replace L_2 := cell_later hst21 L_2
      replace L_l := Nat.lt_of_lt_of_le L_l hst21.size
      replace hL := hL.later hst21
      clear hst21
      clear hc21 hb20
      go_wp2_with fail
      with_reducible refine (ask_r 11 11 false [] [(3, false), (4, true)] 0 [] [] false 14 none (some ⟨q0, 0, none⟩) 0 0 2 2 0 0 _ (hL.later (below_alloc _ _)) (by omega) (by decide +kernel) rfl rfl).mono ?_
      rintro e w22 ⟨a3, c3, a4, c4, rfl, _, hc22⟩
      have hb22 : Below w.heap.size w w22 := bchain (by repeat' (first | with_reducible exact hb21 | with_reducible refine Below.drew ?_ | with_reducible refine below_drewN ?_ _ | with_reducible refine Below.alloc ?_ (by have := hb21.size; first | (simp; done) | (simp; omega) | omega) _ | with_reducible refine Below.setCell ?_ (by first | (simp; done) | (simp; omega) | omega) _)) hc22
      have hst22 : Below w21.heap.size w21 w22 := bchain (by repeat' (first | with_reducible exact Below.refl _ _ | with_reducible refine Below.drew ?_ | with_reducible refine below_drewN ?_ _ | with_reducible refine Below.alloc ?_ (by first | (simp; done) | (simp; omega) | omega) _ | with_reducible refine Below.setCell ?_ (by first | (simp; done) | (simp; omega) | omega) _)) hc22
      replace L_0 := cell_later hst22 L_0
      replace L_1 := cell_later hst22 L_1
      replace L_2 := cell_later hst22 L_2
      replace L_l := Nat.lt_of_lt_of_le L_l hst22.size
      replace hL := hL.later hst22
      clear hst22
      clear hc22 hb21
      go_wp2_with fail
      with_reducible refine (ask_r 11 4 false [] [(3, false), (4, true)] 0 [] [] false 14 none (some ⟨q0, 0, none⟩) 0 0 2 2 0 0 _ (hL.later (below_alloc _ _)) (by omega) (by decide +kernel) rfl rfl).mono ?_
      rintro e w23 ⟨a5, c5, a6, c6, rfl, _, hc23⟩
      have hb23 : Below w.heap.size w w23 := bchain (by repeat' (first | with_reducible exact hb22 | with_reducible refine Below.drew ?_ | with_reducible refine below_drewN ?_ _ | with_reducible refine Below.alloc ?_ (by have := hb22.size; first | (simp; done) | (simp; omega) | omega) _ | with_reducible refine Below.setCell ?_ (by first | (simp; done) | (simp; omega) | omega) _)) hc23
      have hst23 : Below w22.heap.size w22 w23 := bchain (by repeat' (first | with_reducible exact Below.refl _ _ | with_reducible refine Below.drew ?_ | with_reducible refine below_drewN ?_ _ | with_reducible refine Below.alloc ?_ (by first | (simp; done) | (simp; omega) | omega) _ | with_reducible refine Below.setCell ?_ (by first | (simp; done) | (simp; omega) | omega) _)) hc23
      replace L_0 := cell_later hst23 L_0
      replace L_1 := cell_later hst23 L_1
      replace L_2 := cell_later hst23 L_2
      replace L_l := Nat.lt_of_lt_of_le L_l hst23.size
      replace hL := hL.later hst23
      clear hst23
      clear hc23 hb22
      go_wp2_with fail
      with_reducible refine (free_r 11 3 [] [(3, false), (4, true)] 0 [] [] [] 36 none (some ⟨q0, 0, none⟩) 0 0 2 2 0 0 0 _ (hL.later (below_alloc _ _)) (by omega) (by decide +kernel) rfl rfl rfl).mono ?_
      rintro e w24 ⟨b1, d1, b2, d2, b3, d3, rfl, _, _, hc24⟩
      have hb24 : Below w.heap.size w w24 := bchain (by repeat' (first | with_reducible exact hb23 | with_reducible refine Below.drew ?_ | with_reducible refine below_drewN ?_ _ | with_reducible refine Below.alloc ?_ (by have := hb23.size; first | (simp; done) | (simp; omega) | omega) _ | with_reducible refine Below.setCell ?_ (by first | (simp; done) | (simp; omega) | omega) _)) hc24
      have hst24 : Below w23.heap.size w23 w24 := bchain (by repeat' (first | with_reducible exact Below.refl _ _ | with_reducible refine Below.drew ?_ | with_reducible refine below_drewN ?_ _ | with_reducible refine Below.alloc ?_ (by first | (simp; done) | (simp; omega) | omega) _ | with_reducible refine Below.setCell ?_ (by first | (simp; done) | (simp; omega) | omega) _)) hc24
      replace L_0 := cell_later hst24 L_0
      replace L_1 := cell_later hst24 L_1
      replace L_2 := cell_later hst24 L_2
      replace L_l := Nat.lt_of_lt_of_le L_l hst24.size
      replace hL := hL.later hst24
      clear hst24
      clear hc24 hb23
      go_wp2_with fail
      with_reducible refine (free_r 11 (-1) [] [(3, false), (4, true)] 0 [] [] [] 2 none (some ⟨q0, 0, none⟩) 0 0 2 2 0 0 0 _ (hL.later (below_alloc _ _)) (by omega) (by decide +kernel) rfl rfl rfl).mono ?_
      rintro e w25 ⟨b4, d4, b5, d5, b6, d6, rfl, _, _, hc25⟩
      have hb25 : Below w.heap.size w w25 := bchain (by repeat' (first | with_reducible exact hb24 | with_reducible refine Below.drew ?_ | with_reducible refine below_drewN ?_ _ | with_reducible refine Below.alloc ?_ (by have := hb24.size; first | (simp; done) | (simp; omega) | omega) _ | with_reducible refine Below.setCell ?_ (by first | (simp; done) | (simp; omega) | omega) _)) hc25
      have hst25 : Below w24.heap.size w24 w25 := bchain (by repeat' (first | with_reducible exact Below.refl _ _ | with_reducible refine Below.drew ?_ | with_reducible refine below_drewN ?_ _ | with_reducible refine Below.alloc ?_ (by first | (simp; done) | (simp; omega) | omega) _ | with_reducible refine Below.setCell ?_ (by first | (simp; done) | (simp; omega) | omega) _)) hc25
      replace L_0 := cell_later hst25 L_0
      replace L_1 := cell_later hst25 L_1
      replace L_2 := cell_later hst25 L_2
      replace L_l := Nat.lt_of_lt_of_le L_l hst25.size
      replace hL := hL.later hst25
      clear hst25
      clear hc25 hb24
      go_wp2_with fail
      with_reducible refine (leave_r 11 11 [] [(3, false), (4, true)] 0 [] [] [] 36 none (some ⟨q0, 0, none⟩) 0 0 2 2 0 0 0 _ (hL.later (below_alloc _ _)) (by omega) (by decide +kernel) rfl rfl rfl).mono ?_
      rintro e w26 ⟨b7, d7, b8, d8, b9, d9, rfl, _, _, hc26⟩
      have hb26 : Below w.heap.size w w26 := bchain (by repeat' (first | with_reducible exact hb25 | with_reducible refine Below.drew ?_ | with_reducible refine below_drewN ?_ _ | with_reducible refine Below.alloc ?_ (by have := hb25.size; first | (simp; done) | (simp; omega) | omega) _ | with_reducible refine Below.setCell ?_ (by first | (simp; done) | (simp; omega) | omega) _)) hc26
      have hst26 : Below w25.heap.size w25 w26 := bchain (by repeat' (first | with_reducible exact Below.refl _ _ | with_reducible refine Below.drew ?_ | with_reducible refine below_drewN ?_ _ | with_reducible refine Below.alloc ?_ (by first | (simp; done) | (simp; omega) | omega) _ | with_reducible refine Below.setCell ?_ (by first | (simp; done) | (simp; omega) | omega) _)) hc26
      replace L_0 := cell_later hst26 L_0
      replace L_1 := cell_later hst26 L_1
      replace L_2 := cell_later hst26 L_2
      replace L_l := Nat.lt_of_lt_of_le L_l hst26.size
      replace hL := hL.later hst26
      clear hst26
      clear hc26 hb25
      go_wp2_with fail
      with_reducible refine (leave_r 11 5 [] [(3, false), (4, true)] 0 [] [] [] 36 none (some ⟨q0, 0, none⟩) 0 0 2 2 0 0 0 _ (hL.later (below_alloc _ _)) (by omega) (by decide +kernel) rfl rfl rfl).mono ?_
      rintro e w27 ⟨e1, f1, e2, f2, e3, f3, rfl, _, _, hc27⟩
      have hb27 : Below w.heap.size w w27 := bchain (by repeat' (first | with_reducible exact hb26 | with_reducible refine Below.drew ?_ | with_reducible refine below_drewN ?_ _ | with_reducible refine Below.alloc ?_ (by have := hb26.size; first | (simp; done) | (simp; omega) | omega) _ | with_reducible refine Below.setCell ?_ (by first | (simp; done) | (simp; omega) | omega) _)) hc27
      have hst27 : Below w26.heap.size w26 w27 := bchain (by repeat' (first | with_reducible exact Below.refl _ _ | with_reducible refine Below.drew ?_ | with_reducible refine below_drewN ?_ _ | with_reducible refine Below.alloc ?_ (by first | (simp; done) | (simp; omega) | omega) _ | with_reducible refine Below.setCell ?_ (by first | (simp; done) | (simp; omega) | omega) _)) hc27
      replace L_0 := cell_later hst27 L_0
      replace L_1 := cell_later hst27 L_1
      replace L_2 := cell_later hst27 L_2
      replace L_l := Nat.lt_of_lt_of_le L_l hst27.size
      replace hL := hL.later hst27
      clear hst27
      clear hc27 hb26
      go_wp2_with fail
      with_reducible refine (free_r 11 11 [] [(3, false), (4, true)] (-1) [3] [(4, true)] [3] 0 none (some ⟨q0, 0, none⟩) 0 0 2 2 1 1 1 _ (hL.later (below_alloc _ _)) (by omega) (by decide +kernel) rfl rfl rfl).mono ?_
      rintro e w28 ⟨g1, h1, g2, h2, g3, h3, rfl, lX, kX, hc28⟩
      have hb28 : Below w.heap.size w w28 := bchain (by repeat' (first | with_reducible exact hb27 | with_reducible refine Below.drew ?_ | with_reducible refine below_drewN ?_ _ | with_reducible refine Below.alloc ?_ (by have := hb27.size; first | (simp; done) | (simp; omega) | omega) _ | with_reducible refine Below.setCell ?_ (by first | (simp; done) | (simp; omega) | omega) _)) hc28
      have hst28 : Below w27.heap.size w27 w28 := bchain (by repeat' (first | with_reducible exact Below.refl _ _ | with_reducible refine Below.drew ?_ | with_reducible refine below_drewN ?_ _ | with_reducible refine Below.alloc ?_ (by first | (simp; done) | (simp; omega) | omega) _ | with_reducible refine Below.setCell ?_ (by first | (simp; done) | (simp; omega) | omega) _)) hc28
      replace L_0 := cell_later hst28 L_0
      replace L_1 := cell_later hst28 L_1
      replace L_2 := cell_later hst28 L_2
      replace L_l := Nat.lt_of_lt_of_le L_l hst28.size
      replace hL := hL.later hst28
      clear hst28
      clear hc28 hb27
      go_wp2_with fail
      with_reducible refine (holds_r 11 11 [] [(3, false), (4, true)] 2 0 none (some ⟨q0, 0, none⟩) 0 0 2 2 _ (hL.later (below_alloc _ _)) (by decide +kernel)).mono ?_
      rintro e w29 ⟨rfl, hc29⟩
      have hb29 : Below w.heap.size w w29 := bchain (by repeat' (first | with_reducible exact hb28 | with_reducible refine Below.drew ?_ | with_reducible refine below_drewN ?_ _ | with_reducible refine Below.alloc ?_ (by have := hb28.size; first | (simp; done) | (simp; omega) | omega) _ | with_reducible refine Below.setCell ?_ (by first | (simp; done) | (simp; omega) | omega) _)) hc29
      have hst29 : Below w28.heap.size w28 w29 := bchain (by repeat' (first | with_reducible exact Below.refl _ _ | with_reducible refine Below.drew ?_ | with_reducible refine below_drewN ?_ _ | with_reducible refine Below.alloc ?_ (by first | (simp; done) | (simp; omega) | omega) _ | with_reducible refine Below.setCell ?_ (by first | (simp; done) | (simp; omega) | omega) _)) hc29
      replace L_0 := cell_later hst29 L_0
      replace L_1 := cell_later hst29 L_1
      replace L_2 := cell_later hst29 L_2
      replace L_l := Nat.lt_of_lt_of_le L_l hst29.size
      have X_0 : w29.cell? ⟨w28.heap.size, 0, none⟩ = some (.int .i64 (-1)) := (hc29.cell (p := ⟨w28.heap.size, 0, none⟩) (by first | (simp; done) | (simp; omega))).trans (by first | (simp; done) | go_simp)
      have X_1 : w29.cell? ⟨w28.heap.size, 1, none⟩ = some (.slice g1 1 h1) := (hc29.cell (p := ⟨w28.heap.size, 1, none⟩) (by first | (simp; done) | (simp; omega))).trans (by first | (simp; done) | go_simp)
      have X_2 : w29.cell? ⟨w28.heap.size, 2, none⟩ = some (.slice g2 1 h2) := (hc29.cell (p := ⟨w28.heap.size, 2, none⟩) (by first | (simp; done) | (simp; omega))).trans (by first | (simp; done) | go_simp)
      have X_l : w28.heap.size < w29.heap.size := Nat.lt_of_lt_of_le (by first | (simp; done) | (simp; omega)) hc29.size
      replace hL := hL.later hst29
      replace lX := lX.later hst29
      replace kX := kX.later hst29
      clear hst29
      clear hc29 hb28
      go_wp2_with fail
      with_reducible refine (holds_r 11 4 [] [(3, false), (4, true)] (-1) 0 none (some ⟨q0, 0, none⟩) 0 0 2 2 _ hL (by decide +kernel)).mono ?_
      rintro e w30 ⟨rfl, hc30⟩
      have hb30 : Below w.heap.size w w30 := bchain (by repeat' (first | with_reducible exact hb29 | with_reducible refine Below.drew ?_ | with_reducible refine below_drewN ?_ _ | with_reducible refine Below.alloc ?_ (by have := hb29.size; first | (simp; done) | (simp; omega) | omega) _ | with_reducible refine Below.setCell ?_ (by first | (simp; done) | (simp; omega) | omega) _)) hc30
      have hst30 : Below w29.heap.size w29 w30 := bchain (by repeat' (first | with_reducible exact Below.refl _ _ | with_reducible refine Below.drew ?_ | with_reducible refine below_drewN ?_ _ | with_reducible refine Below.alloc ?_ (by first | (simp; done) | (simp; omega) | omega) _ | with_reducible refine Below.setCell ?_ (by first | (simp; done) | (simp; omega) | omega) _)) hc30
      replace L_0 := cell_later hst30 L_0
      replace L_1 := cell_later hst30 L_1
      replace L_2 := cell_later hst30 L_2
      replace L_l := Nat.lt_of_lt_of_le L_l hst30.size
      replace X_0 := cell_later hst30 X_0
      replace X_1 := cell_later hst30 X_1
      replace X_2 := cell_later hst30 X_2
      replace X_l := Nat.lt_of_lt_of_le X_l hst30.size
      replace hL := hL.later hst30
      replace lX := lX.later hst30
      replace kX := kX.later hst30
      clear hst30
      clear hc30 hb29
      go_wp2_with fail
      with_reducible refine (holds_r 11 0 [] [(3, false), (4, true)] 0 0 none (some ⟨q0, 0, none⟩) 0 0 2 2 _ hL (by decide +kernel)).mono ?_
      rintro e w31 ⟨rfl, hc31⟩
      have hb31 : Below w.heap.size w w31 := bchain (by repeat' (first | with_reducible exact hb30 | with_reducible refine Below.drew ?_ | with_reducible refine below_drewN ?_ _ | with_reducible refine Below.alloc ?_ (by have := hb30.size; first | (simp; done) | (simp; omega) | omega) _ | with_reducible refine Below.setCell ?_ (by first | (simp; done) | (simp; omega) | omega) _)) hc31
      have hst31 : Below w30.heap.size w30 w31 := bchain (by repeat' (first | with_reducible exact Below.refl _ _ | with_reducible refine Below.drew ?_ | with_reducible refine below_drewN ?_ _ | with_reducible refine Below.alloc ?_ (by first | (simp; done) | (simp; omega) | omega) _ | with_reducible refine Below.setCell ?_ (by first | (simp; done) | (simp; omega) | omega) _)) hc31
      replace L_0 := cell_later hst31 L_0
      replace L_1 := cell_later hst31 L_1
      replace L_2 := cell_later hst31 L_2
      replace L_l := Nat.lt_of_lt_of_le L_l hst31.size
      replace X_0 := cell_later hst31 X_0
      replace X_1 := cell_later hst31 X_1
      replace X_2 := cell_later hst31 X_2
      replace X_l := Nat.lt_of_lt_of_le X_l hst31.size
      replace hL := hL.later hst31
      replace lX := lX.later hst31
      replace kX := kX.later hst31
      clear hst31
      clear hc31 hb30
      go_wp2_with fail
      with_reducible refine (holds_r (-1) 3 [3] [(4, true)] 1 0 g1 g2 1 h1 1 h2 _ lX (by decide +kernel)).mono ?_
      rintro e w32 ⟨rfl, hc32⟩
      have hb32 : Below w.heap.size w w32 := bchain (by repeat' (first | with_reducible exact hb31 | with_reducible refine Below.drew ?_ | with_reducible refine below_drewN ?_ _ | with_reducible refine Below.alloc ?_ (by have := hb31.size; first | (simp; done) | (simp; omega) | omega) _ | with_reducible refine Below.setCell ?_ (by first | (simp; done) | (simp; omega) | omega) _)) hc32
      have hst32 : Below w31.heap.size w31 w32 := bchain (by repeat' (first | with_reducible exact Below.refl _ _ | with_reducible refine Below.drew ?_ | with_reducible refine below_drewN ?_ _ | with_reducible refine Below.alloc ?_ (by first | (simp; done) | (simp; omega) | omega) _ | with_reducible refine Below.setCell ?_ (by first | (simp; done) | (simp; omega) | omega) _)) hc32
      replace L_0 := cell_later hst32 L_0
      replace L_1 := cell_later hst32 L_1
      replace L_2 := cell_later hst32 L_2
      replace L_l := Nat.lt_of_lt_of_le L_l hst32.size
      replace X_0 := cell_later hst32 X_0
      replace X_1 := cell_later hst32 X_1
      replace X_2 := cell_later hst32 X_2
      replace X_l := Nat.lt_of_lt_of_le X_l hst32.size
      replace hL := hL.later hst32
      replace lX := lX.later hst32
      replace kX := kX.later hst32
      clear hst32
      clear hc32 hb31
      go_wp2_with fail
      with_reducible refine (alive_any _).mono ?_
      rintro e w33 ⟨rfl, hc33⟩
      have hb33 : Below w.heap.size w w33 := bchain (by repeat' (first | with_reducible exact hb32 | with_reducible refine Below.drew ?_ | with_reducible refine below_drewN ?_ _ | with_reducible refine Below.alloc ?_ (by have := hb32.size; first | (simp; done) | (simp; omega) | omega) _ | with_reducible refine Below.setCell ?_ (by first | (simp; done) | (simp; omega) | omega) _)) hc33
      have hst33 : Below w32.heap.size w32 w33 := bchain (by repeat' (first | with_reducible exact Below.refl _ _ | with_reducible refine Below.drew ?_ | with_reducible refine below_drewN ?_ _ | with_reducible refine Below.alloc ?_ (by first | (simp; done) | (simp; omega) | omega) _ | with_reducible refine Below.setCell ?_ (by first | (simp; done) | (simp; omega) | omega) _)) hc33
      replace L_0 := cell_later hst33 L_0
      replace L_1 := cell_later hst33 L_1
      replace L_2 := cell_later hst33 L_2
      replace L_l := Nat.lt_of_lt_of_le L_l hst33.size
      replace X_0 := cell_later hst33 X_0
      replace X_1 := cell_later hst33 X_1
      replace X_2 := cell_later hst33 X_2
      replace X_l := Nat.lt_of_lt_of_le X_l hst33.size
      replace hL := hL.later hst33
      replace lX := lX.later hst33
      replace kX := kX.later hst33
      clear hst33
      clear hc33 hb32
      go_wp2_with fail
      with_reducible refine (sameInts_self [3] g3 (some ⟨w33.heap.size, 0, none⟩) 1 h3 1 _ rfl (by omega) (kX.alloc _) (cellsAt_lit w33 [.int .i64 3] 3)).mono ?_
      rintro e w34 ⟨rfl, hc34⟩
      have hb34 : Below w.heap.size w w34 := bchain (by repeat' (first | with_reducible exact hb33 | with_reducible refine Below.drew ?_ | with_reducible refine below_drewN ?_ _ | with_reducible refine Below.alloc ?_ (by have := hb33.size; first | (simp; done) | (simp; omega) | omega) _ | with_reducible refine Below.setCell ?_ (by first | (simp; done) | (simp; omega) | omega) _)) hc34
      have hst34 : Below w33.heap.size w33 w34 := bchain (by repeat' (first | with_reducible exact Below.refl _ _ | with_reducible refine Below.drew ?_ | with_reducible refine below_drewN ?_ _ | with_reducible refine Below.alloc ?_ (by first | (simp; done) | (simp; omega) | omega) _ | with_reducible refine Below.setCell ?_ (by first | (simp; done) | (simp; omega) | omega) _)) hc34
      replace L_0 := cell_later hst34 L_0
      replace L_1 := cell_later hst34 L_1
      replace L_2 := cell_later hst34 L_2
      replace L_l := Nat.lt_of_lt_of_le L_l hst34.size
      replace X_0 := cell_later hst34 X_0
      replace X_1 := cell_later hst34 X_1
      replace X_2 := cell_later hst34 X_2
      replace X_l := Nat.lt_of_lt_of_le X_l hst34.size
      replace hL := hL.later hst34
      replace lX := lX.later hst34
      replace kX := kX.later hst34
      clear hst34
      clear hc34 hb33
      go_wp2_with fail
      go_ret
      exact ⟨rfl, by repeat' (first | with_reducible exact hb34 | with_reducible refine Below.drew ?_ | with_reducible refine below_drewN ?_ _ | with_reducible refine Below.alloc ?_ (by have := hb34.size; first | (simp; done) | (simp; omega) | omega) _ | with_reducible refine Below.setCell ?_ (by first | (simp; done) | (simp; omega) | omega) _)⟩

end Go.Proofs.Ytnkbbfeaodppgaa
