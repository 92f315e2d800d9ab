/- The law TicketNames: limits and errors. -/
import Derived.Test.YtpfldkcbkolgnaaTicketInts
namespace Go.Proofs.Ytpfldkcbkolgnaa
set_option linter.unusedSimpArgs false
set_option linter.unusedVariables false
set_option linter.unnecessarySimpa false
open Go.RowKit

def badG : Nat → Int
  | 0 => 0 | 1 => 0 | 2 => 0 | 3 => 0 | 4 => 1000000001 | 5 => 1 | _ => 3
def badO : Nat → Int
  | 2 => -1 | 3 => 1 | 6 => 1 | _ => 0
def badR : Nat → Int
  | 0 => 0 | 1 => 17 | 7 => 2 | 8 => 2 | _ => 1
def badH : Nat → Slips
  | 5 => [(1, 0)] | 6 => [(0, 0)] | 7 => [(1, 0), (1, 0)] | 8 => [(2, 0), (1, 0)] | 9 => [(1, 0), (2, 0)] | _ => []
theorem bad_err : ∀ t, t < 10 → dErr (badG t) (badO t) (badR t) (badH t) = 8 ∧ (badH t).length ≤ 2 := by decide +kernel
/-- The row of bad desks. -/
def BadRow (w : World) (B : Nat) : Prop := ∀ t, t < 10 → ∃ a c, w.cell? ⟨B, t * 4, none⟩ = some (.int .i64 (badG t)) ∧ w.cell? ⟨B, t * 4 + 1, none⟩ = some (.int .i64 (badO t)) ∧ w.cell? ⟨B, t * 4 + 2, none⟩ = some (.int .i64 (badR t)) ∧ w.cell? ⟨B, t * 4 + 3, none⟩ = some (.slice a (badH t).length c) ∧ CellsAt w a (cel (badH t))
theorem BadRow.later {w w' : World} {B : Nat} (h : BadRow w B) (hb : Below w.heap.size w w') : BadRow w' B := fun t ht => by
  obtain ⟨a, c, h0, h1, h2, h3, h4⟩ := h t ht
  exact ⟨a, c, cell_later hb h0, cell_later hb h1, cell_later hb h2, cell_later hb h3, h4.later hb⟩
/-- A desk in a row, at place k. -/
def At4 (w : World) (B k : Nat) (g o r : Int) (a : Option Addr) (n c : Nat) : Prop := w.cell? ⟨B, k * 4, none⟩ = some (.int .i64 g) ∧ w.cell? ⟨B, k * 4 + 1, none⟩ = some (.int .i64 o) ∧ w.cell? ⟨B, k * 4 + 2, none⟩ = some (.int .i64 r) ∧ w.cell? ⟨B, k * 4 + 3, none⟩ = some (.slice a n c)
theorem At4.later {w w' : World} {B k : Nat} {g o r : Int} {a : Option Addr} {n c : Nat} (h : At4 w B k g o r a n c) (hb : Below w.heap.size w w') : At4 w' B k g o r a n c :=
  ⟨cell_later hb h.1, cell_later hb h.2.1, cell_later hb h.2.2.1, cell_later hb h.2.2.2⟩
def badCells (a5 a6 a7 a8 a9 : Addr) : List Value := [.int .i64 0, .int .i64 0, .int .i64 0, .slice none 0 0, .int .i64 0, .int .i64 0, .int .i64 17, .slice none 0 0, .int .i64 0, .int .i64 (-1), .int .i64 1, .slice none 0 0, .int .i64 0, .int .i64 1, .int .i64 1, .slice none 0 0, .int .i64 1000000001, .int .i64 0, .int .i64 1, .slice none 0 0, .int .i64 1, .int .i64 0, .int .i64 1, .slice (some a5) 1 1, .int .i64 3, .int .i64 1, .int .i64 1, .slice (some a6) 1 1, .int .i64 3, .int .i64 0, .int .i64 2, .slice (some a7) 2 2, .int .i64 3, .int .i64 0, .int .i64 2, .slice (some a8) 2 2, .int .i64 3, .int .i64 0, .int .i64 1, .slice (some a9) 2 2]
theorem BadRow.of {w : World} {B : Nat} {a5 a6 a7 a8 a9 : Addr} (h : CellsAt w (some ⟨B, 0, none⟩) (badCells a5 a6 a7 a8 a9))
    (h5 : CellsAt w (some a5) [.int .i64 1, .int .u64 0]) (h6 : CellsAt w (some a6) [.int .i64 0, .int .u64 0]) (h7 : CellsAt w (some a7) [.int .i64 1, .int .u64 0, .int .i64 1, .int .u64 0]) (h8 : CellsAt w (some a8) [.int .i64 2, .int .u64 0, .int .i64 1, .int .u64 0]) (h9 : CellsAt w (some a9) [.int .i64 1, .int .u64 0, .int .i64 2, .int .u64 0]) : BadRow w B := by
  have key : ∀ j u, (badCells a5 a6 a7 a8 a9)[j]? = some u → w.cell? ⟨B, j, none⟩ = some u := fun j u hj => by
    rcases h with h | ⟨b, o, ha, h⟩
    · rw [h] at hj; simp at hj
    · cases ha
      have := h j u hj
      rwa [Nat.zero_add] at this
  intro t ht
  match t, ht with
  | 0, _ => exact ⟨none, 0, key 0 _ rfl, key 1 _ rfl, key 2 _ rfl, key 3 _ rfl, .inl rfl⟩
  | 1, _ => exact ⟨none, 0, key 4 _ rfl, key 5 _ rfl, key 6 _ rfl, key 7 _ rfl, .inl rfl⟩
  | 2, _ => exact ⟨none, 0, key 8 _ rfl, key 9 _ rfl, key 10 _ rfl, key 11 _ rfl, .inl rfl⟩
  | 3, _ => exact ⟨none, 0, key 12 _ rfl, key 13 _ rfl, key 14 _ rfl, key 15 _ rfl, .inl rfl⟩
  | 4, _ => exact ⟨none, 0, key 16 _ rfl, key 17 _ rfl, key 18 _ rfl, key 19 _ rfl, .inl rfl⟩
  | 5, _ => exact ⟨some a5, 1, key 20 _ rfl, key 21 _ rfl, key 22 _ rfl, key 23 _ rfl, h5⟩
  | 6, _ => exact ⟨some a6, 1, key 24 _ rfl, key 25 _ rfl, key 26 _ rfl, key 27 _ rfl, h6⟩
  | 7, _ => exact ⟨some a7, 2, key 28 _ rfl, key 29 _ rfl, key 30 _ rfl, key 31 _ rfl, h7⟩
  | 8, _ => exact ⟨some a8, 2, key 32 _ rfl, key 33 _ rfl, key 34 _ rfl, key 35 _ rfl, h8⟩
  | 9, _ => exact ⟨some a9, 2, key 36 _ rfl, key 37 _ rfl, key 38 _ rfl, key 39 _ rfl, h9⟩

instance : DecidableEq Dk := fun a b => decidable_of_iff (a.g = b.g ∧ a.o = b.o ∧ a.r = b.r ∧ a.hs = b.hs) ⟨fun ⟨h1, h2, h3, h4⟩ => by cases a; cases b; simp_all, fun h => by subst h; exact ⟨rfl, rfl, rfl, rfl⟩⟩
theorem take_r (g o r : Int) (hs : Slips) (g' o' r' t er : Int) (hs' : Slips) (n m : Nat) (a : Option Addr) (c : Nat) (w : World) (hn : n = hs.length) (hm : m = hs'.length) (hr : dTake ⟨g, o, r, hs⟩ = (⟨g', o', r', hs'⟩, t, er)) (hc : CellsAt w a (cel hs)) (hb : hs.length ≤ 8796093022206) :
    Calls Try.prog 17 #[.agg #[.int .i64 g, .int .i64 o, .int .i64 r, .slice a n c]] w fun e w' =>
      (∃ a' c', e = .returned (.tuple #[.agg #[.int .i64 g', .int .i64 o', .int .i64 r', .slice a' m c'], .int .i64 t, .int .i64 er]) ∧ CellsAt w' a' (cel hs')) ∧ Below w.heap.size w w' := by
  subst hn hm
  refine (dtake_any g o r hs a c w hc hb).mono fun e w' ⟨⟨a', c', h1, h2, _⟩, h4⟩ => ?_
  rw [hr] at h1 h2
  exact ⟨⟨a', c', h1, h2⟩, h4⟩
theorem pop_r (g o r : Int) (hs : Slips) (g' o' r' x y er : Int) (hs' : Slips) (n m : Nat) (a : Option Addr) (c : Nat) (w : World) (hn : n = hs.length) (hm : m = hs'.length) (hr : dPop ⟨g, o, r, hs⟩ = (⟨g', o', r', hs'⟩, (x, y), er)) (hc : CellsAt w a (cel hs)) (hb : hs.length ≤ 8796093022206) :
    Calls Try.prog 21 #[.agg #[.int .i64 g, .int .i64 o, .int .i64 r, .slice a n c]] w fun e w' =>
      (∃ a' c', e = .returned (.tuple #[.agg #[.int .i64 g', .int .i64 o', .int .i64 r', .slice a' m c'], .agg #[.int .i64 x, .int .u64 y], .int .i64 er]) ∧ CellsAt w' a' (cel hs')) ∧ Below w.heap.size w w' := by
  subst hn hm
  refine (dpop_any g o r hs a c w hc hb).mono fun e w' ⟨⟨a', c', h1, h2, _⟩, h4⟩ => ?_
  rw [hr] at h1 h2
  exact ⟨⟨a', c', h1, h2⟩, h4⟩
theorem check_r (g o r er : Int) (hs : Slips) (n : Nat) (a : Option Addr) (c : Nat) (w : World) (hn : n = hs.length) (hr : dErr g o r hs = er) (hc : CellsAt w a (cel hs)) (hb : hs.length ≤ 8796093022206) :
    Calls Try.prog 24 #[.agg #[.int .i64 g, .int .i64 o, .int .i64 r, .slice a n c]] w fun e w' =>
      e = .returned (.int .i64 er) ∧ Below w.heap.size w w' := by
  subst hn hr
  exact dcheck_any g o r hs a c w hc (by unfold maxLen; omega)
theorem check_l (g o r er : Int) (hs : Slips) (cs : List Value) (n : Nat) (a : Option Addr) (c : Nat) (w : World) (hcs : cel hs = cs) (hn : n = hs.length) (hr : dErr g o r hs = er) (hc : CellsAt w a cs) (hb : hs.length ≤ 8796093022206) :
    Calls Try.prog 24 #[.agg #[.int .i64 g, .int .i64 o, .int .i64 r, .slice a n c]] w fun e w' =>
      e = .returned (.int .i64 er) ∧ Below w.heap.size w w' := check_r g o r er hs n a c w hn hr (hcs ▸ hc) hb
theorem new_r (n g' o' r' er : Int) (w : World) (hr : dNew n = (⟨g', o', r', []⟩, er)) :
    Calls Try.prog 15 #[.int .i64 n] w fun e w' =>
      (∃ a' c', e = .returned (.tuple #[.agg #[.int .i64 g', .int .i64 o', .int .i64 r', .slice a' 0 c'], .int .i64 er])) ∧ Below w.heap.size w w' := by
  refine (dnew_any n w).mono fun e w' ⟨⟨a', c', h1, _, _⟩, h4⟩ => ?_
  rw [hr] at h1
  exact ⟨⟨a', c', h1⟩, h4⟩
theorem bad_take (g o r : Int) (hs : Slips) (h : dErr g o r hs = 8) : dTake ⟨g, o, r, hs⟩ = (⟨0, 0, 0, []⟩, 0, 8) := by
  unfold dTake Dk.err; simp only; rw [if_neg (by omega)]; rfl
theorem bad_put (g o r t x : Int) (hs : Slips) (h : dErr g o r hs = 8) : dPut ⟨g, o, r, hs⟩ t x = (⟨0, 0, 0, []⟩, 8) := by
  unfold dPut Dk.err; simp only; rw [if_neg (by omega)]; rfl
theorem bad_pop (g o r : Int) (hs : Slips) (h : dErr g o r hs = 8) : dPop ⟨g, o, r, hs⟩ = (⟨0, 0, 0, []⟩, (0, 0), 8) := by
  unfold dPop Dk.err; simp only; rw [if_neg (by omega)]; rfl
theorem bad_drain (g o r : Int) (hs : Slips) (h : dErr g o r hs = 8) : dDrain ⟨g, o, r, hs⟩ = (⟨0, 0, 0, []⟩, [], 8) := by
  unfold dDrain Dk.err; simp only; rw [if_neg (by omega)]; rfl

set_option maxRecDepth 100000 in
set_option maxHeartbeats 40000000 in
theorem names_walk (w : World) :
    Calls Try.prog 6 #[] w fun e w' =>
      e = .returned (.bool true) ∧ Below w.heap.size w w' := by
  go_enter Try.func6, Try.ntmps6
  have hb0 := Below.refl w.heap.size w
  go_wp2_with fail
  refine wp_gen fun w1 hc1 => ?_
  have hB : BadRow w1 (w.heap.size + 1 + 1 + 1 + 1 + 1) := by
    refine BadRow.later (BadRow.of (a5 := ⟨w.heap.size, 0, none⟩) (a6 := ⟨w.heap.size + 1, 0, none⟩) (a7 := ⟨w.heap.size + 1 + 1, 0, none⟩) (a8 := ⟨w.heap.size + 1 + 1 + 1, 0, none⟩) (a9 := ⟨w.heap.size + 1 + 1 + 1 + 1, 0, none⟩) ?_ ?_ ?_ ?_ ?_ ?_) hc1
    · exact cellsAt_top (xs := badCells _ _ _ _ _) (by simp)
    all_goals repeat (first | (refine cellsAt_top ?_; simp; done) | refine CellsAt.alloc ?_ _)
  have hb1 : Below w.heap.size w w1 := bchain (by repeat' (first | with_reducible exact hb0 | with_reducible refine Below.drew ?_ | with_reducible refine below_drewN ?_ _ | with_reducible refine Below.alloc ?_ (by have := hb0.size; first | (simp; done) | (simp; omega) | omega) _ | with_reducible refine Below.setCell ?_ (by first | (simp; done) | (simp; omega) | omega) _)) hc1
  obtain ⟨B, hBe⟩ : ∃ B, B = w.heap.size + 1 + 1 + 1 + 1 + 1 := ⟨_, rfl⟩
  rw [← hBe] at hB
  rw [← hBe]
  clear hBe hc1
  go_loopw [2] (fun i wr => ∃ k : Nat, k ≤ 10 ∧ i = .int .i64 k ∧ Below w.heap.size w wr ∧ BadRow wr B) (fun i _ => 10 - (intOf i).toNat)
  case atStart => exact ⟨0, by omega, rfl, hb1, hB⟩
  case round =>
    obtain ⟨k, hk, rfl, hbw, hB⟩ := hrel
    by_cases hlt : k < 10
    · have hlt' : (k : Int) < 10 := by omega
      obtain ⟨a, c, h0, h1, h2, h3, h4⟩ := hB k hlt
      have he := hid (bad_err k hlt).1
      have hm := (bad_err k hlt).2
      obtain ⟨g, hg⟩ : ∃ g, g = badG k := ⟨_, rfl⟩
      obtain ⟨o, ho⟩ : ∃ o, o = badO k := ⟨_, rfl⟩
      obtain ⟨r, hr⟩ : ∃ r, r = badR k := ⟨_, rfl⟩
      obtain ⟨hs, hhs⟩ : ∃ hs, hs = badH k := ⟨_, rfl⟩
      rw [← hg] at h0 he
      rw [← ho] at h1 he
      rw [← hr] at h2 he
      rw [← hhs] at h3 h4 he hm
      have hml : Hid (hs.length ≤ 8796093022206) := hid (by omega)
      clear hm hg ho hr hhs
      have hR : At4 wr B k g o r a hs.length c := ⟨h0, h1, h2, h3⟩
      clear h0 h1 h2 h3
      obtain ⟨h0, h1, h2, h3⟩ := hR
      have zB := World.block_lt_of_cell? _ _ h0
      simp only at zB
      have qB := Nat.ne_of_lt zB
      have hR : At4 _ B k g o r a hs.length c := ⟨h0, h1, h2, h3⟩
      go_wp2_with fail
      with_reducible refine (take_r g o r hs 0 0 0 0 8 [] hs.length 0 a c _ rfl rfl (bad_take g o r hs he.out) (by repeat' (first | with_reducible exact h4 | with_reducible refine CellsAt.setFar ?_ ?_ _ | with_reducible refine CellsAt.alloc ?_ _ | with_reducible refine CellsAt.drew ?_ | with_reducible refine CellsAt.drewN ?_ _ | assumption | (simp; omega) | omega)) hml.out).mono ?_
      rintro e w11 ⟨⟨a1, c1, rfl, _⟩, hc11⟩
      have hb11 : Below w.heap.size w w11 := bchain (by repeat' (first | with_reducible exact hbw | with_reducible refine Below.drew ?_ | with_reducible refine below_drewN ?_ _ | with_reducible refine Below.alloc ?_ (by have := hbw.size; first | (simp; done) | (simp; omega) | omega) _ | with_reducible refine Below.setCell ?_ (by first | (simp; done) | (simp; omega) | omega) _)) hc11
      have hst11 : Below wr.heap.size wr w11 := bchain (by repeat' (first | with_reducible exact Below.refl _ _ | with_reducible refine Below.drew ?_ | with_reducible refine below_drewN ?_ _ | with_reducible refine Below.alloc ?_ (by first | (simp; done) | (simp; omega) | omega) _ | with_reducible refine Below.setCell ?_ (by first | (simp; done) | (simp; omega) | omega) _)) hc11
      replace hB := hB.later hst11
      replace h4 := h4.later hst11
      replace hR := hR.later hst11
      clear hst11
      clear hc11 hbw
      obtain ⟨h0, h1, h2, h3⟩ := hR
      have zB := World.block_lt_of_cell? _ _ h0
      simp only at zB
      have qB := Nat.ne_of_lt zB
      have hR : At4 _ B k g o r a hs.length c := ⟨h0, h1, h2, h3⟩
      go_wp2_with fail
      with_reducible refine (put_r g o r (-1) 0 hs 0 0 0 8 [] hs.length 0 a c _ rfl rfl (bad_put g o r (-1) 0 hs he.out) (by repeat' (first | with_reducible exact h4 | with_reducible refine CellsAt.setFar ?_ ?_ _ | with_reducible refine CellsAt.alloc ?_ _ | with_reducible refine CellsAt.drew ?_ | with_reducible refine CellsAt.drewN ?_ _ | assumption | (simp; omega) | omega)) hml.out).mono ?_
      rintro e w12 ⟨⟨a2, c2, rfl, _, _⟩, hc12⟩
      have hb12 : Below w.heap.size w w12 := bchain (by repeat' (first | with_reducible exact hb11 | with_reducible refine Below.drew ?_ | with_reducible refine below_drewN ?_ _ | with_reducible refine Below.alloc ?_ (by have := hb11.size; first | (simp; done) | (simp; omega) | omega) _ | with_reducible refine Below.setCell ?_ (by first | (simp; done) | (simp; omega) | omega) _)) hc12
      have hst12 : Below w11.heap.size w11 w12 := bchain (by repeat' (first | with_reducible exact Below.refl _ _ | with_reducible refine Below.drew ?_ | with_reducible refine below_drewN ?_ _ | with_reducible refine Below.alloc ?_ (by first | (simp; done) | (simp; omega) | omega) _ | with_reducible refine Below.setCell ?_ (by first | (simp; done) | (simp; omega) | omega) _)) hc12
      replace hB := hB.later hst12
      replace h4 := h4.later hst12
      replace hR := hR.later hst12
      clear hst12
      clear hc12 hb11
      obtain ⟨h0, h1, h2, h3⟩ := hR
      have zB := World.block_lt_of_cell? _ _ h0
      simp only at zB
      have qB := Nat.ne_of_lt zB
      have hR : At4 _ B k g o r a hs.length c := ⟨h0, h1, h2, h3⟩
      go_wp2_with fail
      with_reducible refine (pop_r g o r hs 0 0 0 0 0 8 [] hs.length 0 a c _ rfl rfl (bad_pop g o r hs he.out) (by repeat' (first | with_reducible exact h4 | with_reducible refine CellsAt.setFar ?_ ?_ _ | with_reducible refine CellsAt.alloc ?_ _ | with_reducible refine CellsAt.drew ?_ | with_reducible refine CellsAt.drewN ?_ _ | assumption | (simp; omega) | omega)) hml.out).mono ?_
      rintro e w13 ⟨⟨a3, c3, rfl, _⟩, hc13⟩
      have hb13 : Below w.heap.size w w13 := bchain (by repeat' (first | with_reducible exact hb12 | with_reducible refine Below.drew ?_ | with_reducible refine below_drewN ?_ _ | with_reducible refine Below.alloc ?_ (by have := hb12.size; first | (simp; done) | (simp; omega) | omega) _ | with_reducible refine Below.setCell ?_ (by first | (simp; done) | (simp; omega) | omega) _)) hc13
      have hst13 : Below w12.heap.size w12 w13 := bchain (by repeat' (first | with_reducible exact Below.refl _ _ | with_reducible refine Below.drew ?_ | with_reducible refine below_drewN ?_ _ | with_reducible refine Below.alloc ?_ (by first | (simp; done) | (simp; omega) | omega) _ | with_reducible refine Below.setCell ?_ (by first | (simp; done) | (simp; omega) | omega) _)) hc13
      replace hB := hB.later hst13
      replace h4 := h4.later hst13
      replace hR := hR.later hst13
      clear hst13
      clear hc13 hb12
      obtain ⟨h0, h1, h2, h3⟩ := hR
      have zB := World.block_lt_of_cell? _ _ h0
      simp only at zB
      have qB := Nat.ne_of_lt zB
      have hR : At4 _ B k g o r a hs.length c := ⟨h0, h1, h2, h3⟩
      go_wp2_with fail
      with_reducible refine (drain_r g o r hs 0 0 0 8 [] [] hs.length 0 0 a c _ rfl rfl rfl (bad_drain g o r hs he.out) (by repeat' (first | with_reducible exact h4 | with_reducible refine CellsAt.setFar ?_ ?_ _ | with_reducible refine CellsAt.alloc ?_ _ | with_reducible refine CellsAt.drew ?_ | with_reducible refine CellsAt.drewN ?_ _ | assumption | (simp; omega) | omega)) hml.out).mono ?_
      rintro e w14 ⟨⟨a4, c4, b4, d4, rfl, _, _, _, _⟩, hc14⟩
      have hb14 : Below w.heap.size w w14 := bchain (by repeat' (first | with_reducible exact hb13 | with_reducible refine Below.drew ?_ | with_reducible refine below_drewN ?_ _ | with_reducible refine Below.alloc ?_ (by have := hb13.size; first | (simp; done) | (simp; omega) | omega) _ | with_reducible refine Below.setCell ?_ (by first | (simp; done) | (simp; omega) | omega) _)) hc14
      have hst14 : Below w13.heap.size w13 w14 := bchain (by repeat' (first | with_reducible exact Below.refl _ _ | with_reducible refine Below.drew ?_ | with_reducible refine below_drewN ?_ _ | with_reducible refine Below.alloc ?_ (by first | (simp; done) | (simp; omega) | omega) _ | with_reducible refine Below.setCell ?_ (by first | (simp; done) | (simp; omega) | omega) _)) hc14
      replace hB := hB.later hst14
      replace h4 := h4.later hst14
      replace hR := hR.later hst14
      clear hst14
      clear hc14 hb13
      obtain ⟨h0, h1, h2, h3⟩ := hR
      have zB := World.block_lt_of_cell? _ _ h0
      simp only at zB
      have qB := Nat.ne_of_lt zB
      have hR : At4 _ B k g o r a hs.length c := ⟨h0, h1, h2, h3⟩
      go_wp2_with fail
      with_reducible refine (check_r g o r 8 hs hs.length a c _ rfl he.out (by repeat' (first | with_reducible exact h4 | with_reducible refine CellsAt.setFar ?_ ?_ _ | with_reducible refine CellsAt.alloc ?_ _ | with_reducible refine CellsAt.drew ?_ | with_reducible refine CellsAt.drewN ?_ _ | assumption | (simp; omega) | omega)) hml.out).mono ?_
      rintro e w15 ⟨rfl, hc15⟩
      have hb15 : Below w.heap.size w w15 := bchain (by repeat' (first | with_reducible exact hb14 | with_reducible refine Below.drew ?_ | with_reducible refine below_drewN ?_ _ | with_reducible refine Below.alloc ?_ (by have := hb14.size; first | (simp; done) | (simp; omega) | omega) _ | with_reducible refine Below.setCell ?_ (by first | (simp; done) | (simp; omega) | omega) _)) hc15
      have hst15 : Below w14.heap.size w14 w15 := bchain (by repeat' (first | with_reducible exact Below.refl _ _ | with_reducible refine Below.drew ?_ | with_reducible refine below_drewN ?_ _ | with_reducible refine Below.alloc ?_ (by first | (simp; done) | (simp; omega) | omega) _ | with_reducible refine Below.setCell ?_ (by first | (simp; done) | (simp; omega) | omega) _)) hc15
      replace hB := hB.later hst15
      replace h4 := h4.later hst15
      replace hR := hR.later hst15
      clear hst15
      clear hc15 hb14
      clear h0 h1 h2 h3
      go_wp2_with fail
      go_roundw
      case rel => exact ⟨k + 1, by omega, by go_num, hb15, hB⟩
      case measure => simp [intOf]; omega
    · obtain rfl : k = 10 := by omega
      clear hB
      go_wp2_with fail
      with_reducible refine (new_r 0 0 0 0 2 _ (by decide +kernel)).mono ?_
      rintro e w21 ⟨⟨a1, c1, rfl⟩, hc21⟩
      have hb21 : Below w.heap.size w w21 := bchain (by repeat' (first | with_reducible exact hbw | with_reducible refine Below.drew ?_ | with_reducible refine below_drewN ?_ _ | with_reducible refine Below.alloc ?_ (by have := hbw.size; first | (simp; done) | (simp; omega) | omega) _ | with_reducible refine Below.setCell ?_ (by first | (simp; done) | (simp; omega) | omega) _)) hc21
      clear hc21 hbw
      go_wp2_with fail
      with_reducible refine (new_r 17 0 0 0 2 _ (by decide +kernel)).mono ?_
      rintro e w22 ⟨⟨a2, c2, rfl⟩, hc22⟩
      have hb22 : Below w.heap.size w w22 := bchain (by repeat' (first | with_reducible exact hb21 | with_reducible refine Below.drew ?_ | with_reducible refine below_drewN ?_ _ | with_reducible refine Below.alloc ?_ (by have := hb21.size; first | (simp; done) | (simp; omega) | omega) _ | with_reducible refine Below.setCell ?_ (by first | (simp; done) | (simp; omega) | omega) _)) hc22
      clear hc22 hb21
      go_wp2_with fail
      with_reducible refine (take_r 1000000000 999999999 16 [] 0 0 0 0 18 [] 0 0 none 0 _ rfl rfl (by decide +kernel) (cel0 _ _) (by decide)).mono ?_
      rintro e w23 ⟨⟨a3, c3, rfl, _⟩, hc23⟩
      have hb23 : Below w.heap.size w w23 := bchain (by repeat' (first | with_reducible exact hb22 | with_reducible refine Below.drew ?_ | with_reducible refine below_drewN ?_ _ | with_reducible refine Below.alloc ?_ (by have := hb22.size; first | (simp; done) | (simp; omega) | omega) _ | with_reducible refine Below.setCell ?_ (by first | (simp; done) | (simp; omega) | omega) _)) hc23
      have L_0 : w23.cell? ⟨w22.heap.size + 1, 0, none⟩ = some (.int .i64 1000000000) := (hc23.cell (p := ⟨w22.heap.size + 1, 0, none⟩) (by first | (simp; done) | (simp; omega))).trans (by first | (simp; done) | go_simp)
      have L_1 : w23.cell? ⟨w22.heap.size + 1, 1, none⟩ = some (.int .i64 999999999) := (hc23.cell (p := ⟨w22.heap.size + 1, 1, none⟩) (by first | (simp; done) | (simp; omega))).trans (by first | (simp; done) | go_simp)
      have L_2 : w23.cell? ⟨w22.heap.size + 1, 2, none⟩ = some (.int .i64 16) := (hc23.cell (p := ⟨w22.heap.size + 1, 2, none⟩) (by first | (simp; done) | (simp; omega))).trans (by first | (simp; done) | go_simp)
      have L_3 : w23.cell? ⟨w22.heap.size + 1, 3, none⟩ = some (.slice none 0 0) := (hc23.cell (p := ⟨w22.heap.size + 1, 3, none⟩) (by first | (simp; done) | (simp; omega))).trans (by first | (simp; done) | go_simp)
      have L_f0 : w23.frozen? ⟨w22.heap.size + 1, 0, none⟩ = false := (hc23.frozen (p := ⟨w22.heap.size + 1, 0, none⟩) (by first | (simp; done) | (simp; omega))).trans (by first | (simp; done) | go_simp)
      have L_f1 : w23.frozen? ⟨w22.heap.size + 1, 1, none⟩ = false := (hc23.frozen (p := ⟨w22.heap.size + 1, 1, none⟩) (by first | (simp; done) | (simp; omega))).trans (by first | (simp; done) | go_simp)
      have L_f2 : w23.frozen? ⟨w22.heap.size + 1, 2, none⟩ = false := (hc23.frozen (p := ⟨w22.heap.size + 1, 2, none⟩) (by first | (simp; done) | (simp; omega))).trans (by first | (simp; done) | go_simp)
      have L_f3 : w23.frozen? ⟨w22.heap.size + 1, 3, none⟩ = false := (hc23.frozen (p := ⟨w22.heap.size + 1, 3, none⟩) (by first | (simp; done) | (simp; omega))).trans (by first | (simp; done) | go_simp)
      have L_l : w22.heap.size + 1 < w23.heap.size := Nat.lt_of_lt_of_le (by first | (simp; done) | (simp; omega)) hc23.size
      clear hc23 hb22
      go_wp2_with fail
      with_reducible refine (put_r 1000000000 999999999 16 999999999 5 [] 1000000000 999999999 16 0 [(999999999, 5)] 0 1 none 0 _ rfl rfl (by decide +kernel) (cel0 _ _) (by decide)).mono ?_
      rintro e w24 ⟨⟨ax, cx, rfl, kx, _⟩, hc24⟩
      have hb24 : Below w.heap.size w w24 := bchain (by repeat' (first | with_reducible exact hb23 | with_reducible refine Below.drew ?_ | with_reducible refine below_drewN ?_ _ | with_reducible refine Below.alloc ?_ (by have := hb23.size; first | (simp; done) | (simp; omega) | omega) _ | with_reducible refine Below.setCell ?_ (by first | (simp; done) | (simp; omega) | omega) _)) hc24
      have hst24 : Below w23.heap.size w23 w24 := bchain (by repeat' (first | with_reducible exact Below.refl _ _ | with_reducible refine Below.drew ?_ | with_reducible refine below_drewN ?_ _ | with_reducible refine Below.alloc ?_ (by first | (simp; done) | (simp; omega) | omega) _ | with_reducible refine Below.setCell ?_ (by first | (simp; done) | (simp; omega) | omega) _)) hc24
      replace L_0 := cell_later hst24 L_0
      replace L_1 := cell_later hst24 L_1
      replace L_2 := cell_later hst24 L_2
      replace L_3 := cell_later hst24 L_3
      replace L_f0 := frozen_later hst24 L_l L_f0
      replace L_f1 := frozen_later hst24 L_l L_f1
      replace L_f2 := frozen_later hst24 L_l L_f2
      replace L_f3 := frozen_later hst24 L_l L_f3
      replace L_l := Nat.lt_of_lt_of_le L_l hst24.size
      clear hst24
      clear hc24 hb23
      go_wp2_with fail
      with_reducible refine (pop_r 1000000000 999999999 16 [(999999999, 5)] 1000000000 1000000000 16 999999999 5 0 [] 1 0 ax cx _ rfl rfl (by decide +kernel) (by repeat' (first | with_reducible exact kx | with_reducible refine CellsAt.setFar ?_ ?_ _ | with_reducible refine CellsAt.alloc ?_ _ | with_reducible refine CellsAt.drew ?_ | with_reducible refine CellsAt.drewN ?_ _ | assumption | (simp; omega) | omega)) (by decide)).mono ?_
      rintro e w25 ⟨⟨ay, cy, rfl, _⟩, hc25⟩
      have hb25 : Below w.heap.size w w25 := bchain (by repeat' (first | with_reducible exact hb24 | with_reducible refine Below.drew ?_ | with_reducible refine below_drewN ?_ _ | with_reducible refine Below.alloc ?_ (by have := hb24.size; first | (simp; done) | (simp; omega) | omega) _ | with_reducible refine Below.setCell ?_ (by first | (simp; done) | (simp; omega) | omega) _)) hc25
      have hst25 : Below w24.heap.size w24 w25 := bchain (by repeat' (first | with_reducible exact Below.refl _ _ | with_reducible refine Below.drew ?_ | with_reducible refine below_drewN ?_ _ | with_reducible refine Below.alloc ?_ (by first | (simp; done) | (simp; omega) | omega) _ | with_reducible refine Below.setCell ?_ (by first | (simp; done) | (simp; omega) | omega) _)) hc25
      replace L_0 := cell_later hst25 L_0
      replace L_1 := cell_later hst25 L_1
      replace L_2 := cell_later hst25 L_2
      replace L_3 := cell_later hst25 L_3
      replace L_f0 := frozen_later hst25 L_l L_f0
      replace L_f1 := frozen_later hst25 L_l L_f1
      replace L_f2 := frozen_later hst25 L_l L_f2
      replace L_f3 := frozen_later hst25 L_l L_f3
      replace L_l := Nat.lt_of_lt_of_le L_l hst25.size
      have X_0 : w25.cell? ⟨w24.heap.size, 0, none⟩ = some (.int .i64 1000000000) := (hc25.cell (p := ⟨w24.heap.size, 0, none⟩) (by first | (simp; done) | (simp; omega))).trans (by first | (simp; done) | go_simp)
      have X_1 : w25.cell? ⟨w24.heap.size, 1, none⟩ = some (.int .i64 999999999) := (hc25.cell (p := ⟨w24.heap.size, 1, none⟩) (by first | (simp; done) | (simp; omega))).trans (by first | (simp; done) | go_simp)
      have X_2 : w25.cell? ⟨w24.heap.size, 2, none⟩ = some (.int .i64 16) := (hc25.cell (p := ⟨w24.heap.size, 2, none⟩) (by first | (simp; done) | (simp; omega))).trans (by first | (simp; done) | go_simp)
      have X_3 : w25.cell? ⟨w24.heap.size, 3, none⟩ = some (.slice ax 1 cx) := (hc25.cell (p := ⟨w24.heap.size, 3, none⟩) (by first | (simp; done) | (simp; omega))).trans (by first | (simp; done) | go_simp)
      have X_l : w24.heap.size < w25.heap.size := Nat.lt_of_lt_of_le (by first | (simp; done) | (simp; omega)) hc25.size
      replace kx := kx.later hst25
      clear hst25
      clear hc25 hb24
      go_wp2_with fail
      with_reducible refine (put_r 1000000000 999999999 16 999999999 6 [(999999999, 5)] 0 0 0 14 [] 1 0 ax cx _ rfl rfl (by decide +kernel) (by repeat' (first | with_reducible exact kx | with_reducible refine CellsAt.setFar ?_ ?_ _ | with_reducible refine CellsAt.alloc ?_ _ | with_reducible refine CellsAt.drew ?_ | with_reducible refine CellsAt.drewN ?_ _ | assumption | (simp; omega) | omega)) (by decide)).mono ?_
      rintro e w26 ⟨⟨a5, c5, rfl, _, _⟩, hc26⟩
      have hb26 : Below w.heap.size w w26 := bchain (by repeat' (first | with_reducible exact hb25 | with_reducible refine Below.drew ?_ | with_reducible refine below_drewN ?_ _ | with_reducible refine Below.alloc ?_ (by have := hb25.size; first | (simp; done) | (simp; omega) | omega) _ | with_reducible refine Below.setCell ?_ (by first | (simp; done) | (simp; omega) | omega) _)) hc26
      have hst26 : Below w25.heap.size w25 w26 := bchain (by repeat' (first | with_reducible exact Below.refl _ _ | with_reducible refine Below.drew ?_ | with_reducible refine below_drewN ?_ _ | with_reducible refine Below.alloc ?_ (by first | (simp; done) | (simp; omega) | omega) _ | with_reducible refine Below.setCell ?_ (by first | (simp; done) | (simp; omega) | omega) _)) hc26
      replace L_0 := cell_later hst26 L_0
      replace L_1 := cell_later hst26 L_1
      replace L_2 := cell_later hst26 L_2
      replace L_3 := cell_later hst26 L_3
      replace L_f0 := frozen_later hst26 L_l L_f0
      replace L_f1 := frozen_later hst26 L_l L_f1
      replace L_f2 := frozen_later hst26 L_l L_f2
      replace L_f3 := frozen_later hst26 L_l L_f3
      replace L_l := Nat.lt_of_lt_of_le L_l hst26.size
      replace X_0 := cell_later hst26 X_0
      replace X_1 := cell_later hst26 X_1
      replace X_2 := cell_later hst26 X_2
      replace X_3 := cell_later hst26 X_3
      replace X_l := Nat.lt_of_lt_of_le X_l hst26.size
      have Y_0 : w26.cell? ⟨w25.heap.size, 0, none⟩ = some (.int .i64 1000000000) := (hc26.cell (p := ⟨w25.heap.size, 0, none⟩) (by first | (simp; done) | (simp; omega))).trans (by first | (simp; done) | go_simp)
      have Y_1 : w26.cell? ⟨w25.heap.size, 1, none⟩ = some (.int .i64 1000000000) := (hc26.cell (p := ⟨w25.heap.size, 1, none⟩) (by first | (simp; done) | (simp; omega))).trans (by first | (simp; done) | go_simp)
      have Y_2 : w26.cell? ⟨w25.heap.size, 2, none⟩ = some (.int .i64 16) := (hc26.cell (p := ⟨w25.heap.size, 2, none⟩) (by first | (simp; done) | (simp; omega))).trans (by first | (simp; done) | go_simp)
      have Y_3 : w26.cell? ⟨w25.heap.size, 3, none⟩ = some (.slice ay 0 cy) := (hc26.cell (p := ⟨w25.heap.size, 3, none⟩) (by first | (simp; done) | (simp; omega))).trans (by first | (simp; done) | go_simp)
      have Y_l : w25.heap.size < w26.heap.size := Nat.lt_of_lt_of_le (by first | (simp; done) | (simp; omega)) hc26.size
      have S_0 : w26.cell? ⟨w25.heap.size + 1, 0, none⟩ = some (.int .i64 999999999) := (hc26.cell (p := ⟨w25.heap.size + 1, 0, none⟩) (by first | (simp; done) | (simp; omega))).trans (by first | (simp; done) | go_simp)
      have S_1 : w26.cell? ⟨w25.heap.size + 1, 1, none⟩ = some (.int .u64 5) := (hc26.cell (p := ⟨w25.heap.size + 1, 1, none⟩) (by first | (simp; done) | (simp; omega))).trans (by first | (simp; done) | go_simp)
      have S_l : w25.heap.size + 1 < w26.heap.size := Nat.lt_of_lt_of_le (by first | (simp; done) | (simp; omega)) hc26.size
      replace kx := kx.later hst26
      clear hst26
      clear hc26 hb25
      go_wp2_with fail
      with_reducible refine (put_r 1000000000 999999999 16 1000000000 6 [] 0 0 0 2 [] 0 0 none 0 _ rfl rfl (by decide +kernel) (cel0 _ _) (by decide)).mono ?_
      rintro e w27 ⟨⟨a6, c6, rfl, _, _⟩, hc27⟩
      have hb27 : Below w.heap.size w w27 := bchain (by repeat' (first | with_reducible exact hb26 | with_reducible refine Below.drew ?_ | with_reducible refine below_drewN ?_ _ | with_reducible refine Below.alloc ?_ (by have := hb26.size; first | (simp; done) | (simp; omega) | omega) _ | with_reducible refine Below.setCell ?_ (by first | (simp; done) | (simp; omega) | omega) _)) hc27
      have hst27 : Below w26.heap.size w26 w27 := bchain (by repeat' (first | with_reducible exact Below.refl _ _ | with_reducible refine Below.drew ?_ | with_reducible refine below_drewN ?_ _ | with_reducible refine Below.alloc ?_ (by first | (simp; done) | (simp; omega) | omega) _ | with_reducible refine Below.setCell ?_ (by first | (simp; done) | (simp; omega) | omega) _)) hc27
      replace L_0 := cell_later hst27 L_0
      replace L_1 := cell_later hst27 L_1
      replace L_2 := cell_later hst27 L_2
      replace L_3 := cell_later hst27 L_3
      replace L_f0 := frozen_later hst27 L_l L_f0
      replace L_f1 := frozen_later hst27 L_l L_f1
      replace L_f2 := frozen_later hst27 L_l L_f2
      replace L_f3 := frozen_later hst27 L_l L_f3
      replace L_l := Nat.lt_of_lt_of_le L_l hst27.size
      replace X_0 := cell_later hst27 X_0
      replace X_1 := cell_later hst27 X_1
      replace X_2 := cell_later hst27 X_2
      replace X_3 := cell_later hst27 X_3
      replace X_l := Nat.lt_of_lt_of_le X_l hst27.size
      replace Y_0 := cell_later hst27 Y_0
      replace Y_1 := cell_later hst27 Y_1
      replace Y_2 := cell_later hst27 Y_2
      replace Y_3 := cell_later hst27 Y_3
      replace Y_l := Nat.lt_of_lt_of_le Y_l hst27.size
      replace S_0 := cell_later hst27 S_0
      replace S_1 := cell_later hst27 S_1
      replace S_l := Nat.lt_of_lt_of_le S_l hst27.size
      replace kx := kx.later hst27
      clear hst27
      clear hc27 hb26
      go_wp2_with fail
      with_reducible refine (put_r 1000000000 999999999 16 999999998 6 [] 0 0 0 2 [] 0 0 none 0 _ rfl rfl (by decide +kernel) (cel0 _ _) (by decide)).mono ?_
      rintro e w28 ⟨⟨a7, c7, rfl, _, _⟩, hc28⟩
      have hb28 : Below w.heap.size w w28 := bchain (by repeat' (first | with_reducible exact hb27 | with_reducible refine Below.drew ?_ | with_reducible refine below_drewN ?_ _ | with_reducible refine Below.alloc ?_ (by have := hb27.size; first | (simp; done) | (simp; omega) | omega) _ | with_reducible refine Below.setCell ?_ (by first | (simp; done) | (simp; omega) | omega) _)) hc28
      have hst28 : Below w27.heap.size w27 w28 := bchain (by repeat' (first | with_reducible exact Below.refl _ _ | with_reducible refine Below.drew ?_ | with_reducible refine below_drewN ?_ _ | with_reducible refine Below.alloc ?_ (by first | (simp; done) | (simp; omega) | omega) _ | with_reducible refine Below.setCell ?_ (by first | (simp; done) | (simp; omega) | omega) _)) hc28
      replace L_0 := cell_later hst28 L_0
      replace L_1 := cell_later hst28 L_1
      replace L_2 := cell_later hst28 L_2
      replace L_3 := cell_later hst28 L_3
      replace L_f0 := frozen_later hst28 L_l L_f0
      replace L_f1 := frozen_later hst28 L_l L_f1
      replace L_f2 := frozen_later hst28 L_l L_f2
      replace L_f3 := frozen_later hst28 L_l L_f3
      replace L_l := Nat.lt_of_lt_of_le L_l hst28.size
      replace X_0 := cell_later hst28 X_0
      replace X_1 := cell_later hst28 X_1
      replace X_2 := cell_later hst28 X_2
      replace X_3 := cell_later hst28 X_3
      replace X_l := Nat.lt_of_lt_of_le X_l hst28.size
      replace Y_0 := cell_later hst28 Y_0
      replace Y_1 := cell_later hst28 Y_1
      replace Y_2 := cell_later hst28 Y_2
      replace Y_3 := cell_later hst28 Y_3
      replace Y_l := Nat.lt_of_lt_of_le Y_l hst28.size
      replace S_0 := cell_later hst28 S_0
      replace S_1 := cell_later hst28 S_1
      replace S_l := Nat.lt_of_lt_of_le S_l hst28.size
      replace kx := kx.later hst28
      clear hst28
      clear hc28 hb27
      go_wp2_with fail
      with_reducible refine (pop_r 1000000000 999999999 16 [] 0 0 0 0 0 38 [] 0 0 none 0 _ rfl rfl (by decide +kernel) (cel0 _ _) (by decide)).mono ?_
      rintro e w29 ⟨⟨a8, c8, rfl, _⟩, hc29⟩
      have hb29 : Below w.heap.size w w29 := bchain (by repeat' (first | with_reducible exact hb28 | with_reducible refine Below.drew ?_ | with_reducible refine below_drewN ?_ _ | with_reducible refine Below.alloc ?_ (by have := hb28.size; first | (simp; done) | (simp; omega) | omega) _ | with_reducible refine Below.setCell ?_ (by first | (simp; done) | (simp; omega) | omega) _)) hc29
      have hst29 : Below w28.heap.size w28 w29 := bchain (by repeat' (first | with_reducible exact Below.refl _ _ | with_reducible refine Below.drew ?_ | with_reducible refine below_drewN ?_ _ | with_reducible refine Below.alloc ?_ (by first | (simp; done) | (simp; omega) | omega) _ | with_reducible refine Below.setCell ?_ (by first | (simp; done) | (simp; omega) | omega) _)) hc29
      replace L_0 := cell_later hst29 L_0
      replace L_1 := cell_later hst29 L_1
      replace L_2 := cell_later hst29 L_2
      replace L_3 := cell_later hst29 L_3
      replace L_f0 := frozen_later hst29 L_l L_f0
      replace L_f1 := frozen_later hst29 L_l L_f1
      replace L_f2 := frozen_later hst29 L_l L_f2
      replace L_f3 := frozen_later hst29 L_l L_f3
      replace L_l := Nat.lt_of_lt_of_le L_l hst29.size
      replace X_0 := cell_later hst29 X_0
      replace X_1 := cell_later hst29 X_1
      replace X_2 := cell_later hst29 X_2
      replace X_3 := cell_later hst29 X_3
      replace X_l := Nat.lt_of_lt_of_le X_l hst29.size
      replace Y_0 := cell_later hst29 Y_0
      replace Y_1 := cell_later hst29 Y_1
      replace Y_2 := cell_later hst29 Y_2
      replace Y_3 := cell_later hst29 Y_3
      replace Y_l := Nat.lt_of_lt_of_le Y_l hst29.size
      replace S_0 := cell_later hst29 S_0
      replace S_1 := cell_later hst29 S_1
      replace S_l := Nat.lt_of_lt_of_le S_l hst29.size
      replace kx := kx.later hst29
      clear hst29
      clear hc29 hb28
      have qL : w22.heap.size ≠ w29.heap.size := by omega
      have qL3 : w22.heap.size < w29.heap.size := by omega
      go_wp2_with fail
      with_reducible refine (drain_r 1000000000 999999999 16 [] 1000000000 999999999 16 0 [] [] 0 0 0 none 0 _ rfl rfl rfl (by decide +kernel) (cel0 _ _) (by decide)).mono ?_
      rintro e w30 ⟨⟨az, cz, bz, dz, rfl, _, _, _, _⟩, hc30⟩
      have hb30 : Below w.heap.size w w30 := bchain (by repeat' (first | with_reducible exact hb29 | with_reducible refine Below.drew ?_ | with_reducible refine below_drewN ?_ _ | with_reducible refine Below.alloc ?_ (by have := hb29.size; first | (simp; done) | (simp; omega) | omega) _ | with_reducible refine Below.setCell ?_ (by first | (simp; done) | (simp; omega) | omega) _)) hc30
      have hst30 : Below w29.heap.size w29 w30 := bchain (by repeat' (first | with_reducible exact Below.refl _ _ | with_reducible refine Below.drew ?_ | with_reducible refine below_drewN ?_ _ | with_reducible refine Below.alloc ?_ (by first | (simp; done) | (simp; omega) | omega) _ | with_reducible refine Below.setCell ?_ (by first | (simp; done) | (simp; omega) | omega) _)) hc30
      replace L_0 := cell_later hst30 L_0
      replace L_1 := cell_later hst30 L_1
      replace L_2 := cell_later hst30 L_2
      replace L_3 := cell_later hst30 L_3
      replace L_f0 := frozen_later hst30 L_l L_f0
      replace L_f1 := frozen_later hst30 L_l L_f1
      replace L_f2 := frozen_later hst30 L_l L_f2
      replace L_f3 := frozen_later hst30 L_l L_f3
      replace L_l := Nat.lt_of_lt_of_le L_l hst30.size
      replace X_0 := cell_later hst30 X_0
      replace X_1 := cell_later hst30 X_1
      replace X_2 := cell_later hst30 X_2
      replace X_3 := cell_later hst30 X_3
      replace X_l := Nat.lt_of_lt_of_le X_l hst30.size
      replace Y_0 := cell_later hst30 Y_0
      replace Y_1 := cell_later hst30 Y_1
      replace Y_2 := cell_later hst30 Y_2
      replace Y_3 := cell_later hst30 Y_3
      replace Y_l := Nat.lt_of_lt_of_le Y_l hst30.size
      replace S_0 := cell_later hst30 S_0
      replace S_1 := cell_later hst30 S_1
      replace S_l := Nat.lt_of_lt_of_le S_l hst30.size
      replace kx := kx.later hst30
      clear hst30
      clear hc30 hb29
      go_wp2_with fail
      with_reducible refine (check_l 3 0 1 0 [(0, 0), (1, 0)] [.int .i64 0, .int .u64 0, .int .i64 1, .int .u64 0] 2 _ 2 _ rfl rfl (by decide +kernel) (by refine cellsAt_top ?_; simp) (by decide)).mono ?_
      rintro e w31 ⟨rfl, hc31⟩
      have hb31 : Below w.heap.size w w31 := bchain (by repeat' (first | with_reducible exact hb30 | with_reducible refine Below.drew ?_ | with_reducible refine below_drewN ?_ _ | with_reducible refine Below.alloc ?_ (by have := hb30.size; first | (simp; done) | (simp; omega) | omega) _ | with_reducible refine Below.setCell ?_ (by first | (simp; done) | (simp; omega) | omega) _)) hc31
      have hst31 : Below w30.heap.size w30 w31 := bchain (by repeat' (first | with_reducible exact Below.refl _ _ | with_reducible refine Below.drew ?_ | with_reducible refine below_drewN ?_ _ | with_reducible refine Below.alloc ?_ (by first | (simp; done) | (simp; omega) | omega) _ | with_reducible refine Below.setCell ?_ (by first | (simp; done) | (simp; omega) | omega) _)) hc31
      replace L_0 := cell_later hst31 L_0
      replace L_1 := cell_later hst31 L_1
      replace L_2 := cell_later hst31 L_2
      replace L_3 := cell_later hst31 L_3
      replace L_f0 := frozen_later hst31 L_l L_f0
      replace L_f1 := frozen_later hst31 L_l L_f1
      replace L_f2 := frozen_later hst31 L_l L_f2
      replace L_f3 := frozen_later hst31 L_l L_f3
      replace L_l := Nat.lt_of_lt_of_le L_l hst31.size
      replace X_0 := cell_later hst31 X_0
      replace X_1 := cell_later hst31 X_1
      replace X_2 := cell_later hst31 X_2
      replace X_3 := cell_later hst31 X_3
      replace X_l := Nat.lt_of_lt_of_le X_l hst31.size
      replace Y_0 := cell_later hst31 Y_0
      replace Y_1 := cell_later hst31 Y_1
      replace Y_2 := cell_later hst31 Y_2
      replace Y_3 := cell_later hst31 Y_3
      replace Y_l := Nat.lt_of_lt_of_le Y_l hst31.size
      replace S_0 := cell_later hst31 S_0
      replace S_1 := cell_later hst31 S_1
      replace S_l := Nat.lt_of_lt_of_le S_l hst31.size
      have Z_0 : w31.cell? ⟨w30.heap.size, 0, none⟩ = some (.int .i64 1000000000) := (hc31.cell (p := ⟨w30.heap.size, 0, none⟩) (by first | (simp; done) | (simp; omega))).trans (by first | (simp; done) | go_simp)
      have Z_1 : w31.cell? ⟨w30.heap.size, 1, none⟩ = some (.int .i64 999999999) := (hc31.cell (p := ⟨w30.heap.size, 1, none⟩) (by first | (simp; done) | (simp; omega))).trans (by first | (simp; done) | go_simp)
      have Z_2 : w31.cell? ⟨w30.heap.size, 2, none⟩ = some (.int .i64 16) := (hc31.cell (p := ⟨w30.heap.size, 2, none⟩) (by first | (simp; done) | (simp; omega))).trans (by first | (simp; done) | go_simp)
      have Z_3 : w31.cell? ⟨w30.heap.size, 3, none⟩ = some (.slice az 0 cz) := (hc31.cell (p := ⟨w30.heap.size, 3, none⟩) (by first | (simp; done) | (simp; omega))).trans (by first | (simp; done) | go_simp)
      have Z_l : w30.heap.size < w31.heap.size := Nat.lt_of_lt_of_le (by first | (simp; done) | (simp; omega)) hc31.size
      replace kx := kx.later hst31
      clear hst31
      clear hc31 hb30
      go_wp2_with fail
      with_reducible refine (alive_any _).mono ?_
      rintro e w32 ⟨rfl, hc32⟩
      have hb32 : Below w.heap.size w w32 := bchain (by repeat' (first | with_reducible exact hb31 | with_reducible refine Below.drew ?_ | with_reducible refine below_drewN ?_ _ | with_reducible refine Below.alloc ?_ (by have := hb31.size; first | (simp; done) | (simp; omega) | omega) _ | with_reducible refine Below.setCell ?_ (by first | (simp; done) | (simp; omega) | omega) _)) hc32
      have hst32 : Below w31.heap.size w31 w32 := bchain (by repeat' (first | with_reducible exact Below.refl _ _ | with_reducible refine Below.drew ?_ | with_reducible refine below_drewN ?_ _ | with_reducible refine Below.alloc ?_ (by first | (simp; done) | (simp; omega) | omega) _ | with_reducible refine Below.setCell ?_ (by first | (simp; done) | (simp; omega) | omega) _)) hc32
      replace L_0 := cell_later hst32 L_0
      replace L_1 := cell_later hst32 L_1
      replace L_2 := cell_later hst32 L_2
      replace L_3 := cell_later hst32 L_3
      replace L_f0 := frozen_later hst32 L_l L_f0
      replace L_f1 := frozen_later hst32 L_l L_f1
      replace L_f2 := frozen_later hst32 L_l L_f2
      replace L_f3 := frozen_later hst32 L_l L_f3
      replace L_l := Nat.lt_of_lt_of_le L_l hst32.size
      replace X_0 := cell_later hst32 X_0
      replace X_1 := cell_later hst32 X_1
      replace X_2 := cell_later hst32 X_2
      replace X_3 := cell_later hst32 X_3
      replace X_l := Nat.lt_of_lt_of_le X_l hst32.size
      replace Y_0 := cell_later hst32 Y_0
      replace Y_1 := cell_later hst32 Y_1
      replace Y_2 := cell_later hst32 Y_2
      replace Y_3 := cell_later hst32 Y_3
      replace Y_l := Nat.lt_of_lt_of_le Y_l hst32.size
      replace S_0 := cell_later hst32 S_0
      replace S_1 := cell_later hst32 S_1
      replace S_l := Nat.lt_of_lt_of_le S_l hst32.size
      replace Z_0 := cell_later hst32 Z_0
      replace Z_1 := cell_later hst32 Z_1
      replace Z_2 := cell_later hst32 Z_2
      replace Z_3 := cell_later hst32 Z_3
      replace Z_l := Nat.lt_of_lt_of_le Z_l hst32.size
      replace kx := kx.later hst32
      clear hst32
      clear hc32 hb31
      go_wp2_with fail
      with_reducible refine (dsame_n 1000000000 999999999 16 [] 0 0 az none cz 0 _ rfl rfl (cel0 _ _) (cel0 _ _) (by decide)).mono ?_
      rintro e w33 ⟨rfl, hc33⟩
      have hb33 : Below w.heap.size w w33 := bchain (by repeat' (first | with_reducible exact hb32 | with_reducible refine Below.drew ?_ | with_reducible refine below_drewN ?_ _ | with_reducible refine Below.alloc ?_ (by have := hb32.size; first | (simp; done) | (simp; omega) | omega) _ | with_reducible refine Below.setCell ?_ (by first | (simp; done) | (simp; omega) | omega) _)) hc33
      have hst33 : Below w32.heap.size w32 w33 := bchain (by repeat' (first | with_reducible exact Below.refl _ _ | with_reducible refine Below.drew ?_ | with_reducible refine below_drewN ?_ _ | with_reducible refine Below.alloc ?_ (by first | (simp; done) | (simp; omega) | omega) _ | with_reducible refine Below.setCell ?_ (by first | (simp; done) | (simp; omega) | omega) _)) hc33
      replace L_0 := cell_later hst33 L_0
      replace L_1 := cell_later hst33 L_1
      replace L_2 := cell_later hst33 L_2
      replace L_3 := cell_later hst33 L_3
      replace L_f0 := frozen_later hst33 L_l L_f0
      replace L_f1 := frozen_later hst33 L_l L_f1
      replace L_f2 := frozen_later hst33 L_l L_f2
      replace L_f3 := frozen_later hst33 L_l L_f3
      replace L_l := Nat.lt_of_lt_of_le L_l hst33.size
      replace X_0 := cell_later hst33 X_0
      replace X_1 := cell_later hst33 X_1
      replace X_2 := cell_later hst33 X_2
      replace X_3 := cell_later hst33 X_3
      replace X_l := Nat.lt_of_lt_of_le X_l hst33.size
      replace Y_0 := cell_later hst33 Y_0
      replace Y_1 := cell_later hst33 Y_1
      replace Y_2 := cell_later hst33 Y_2
      replace Y_3 := cell_later hst33 Y_3
      replace Y_l := Nat.lt_of_lt_of_le Y_l hst33.size
      replace S_0 := cell_later hst33 S_0
      replace S_1 := cell_later hst33 S_1
      replace S_l := Nat.lt_of_lt_of_le S_l hst33.size
      replace Z_0 := cell_later hst33 Z_0
      replace Z_1 := cell_later hst33 Z_1
      replace Z_2 := cell_later hst33 Z_2
      replace Z_3 := cell_later hst33 Z_3
      replace Z_l := Nat.lt_of_lt_of_le Z_l hst33.size
      replace kx := kx.later hst33
      clear hst33
      clear hc33 hb32
      go_wp2_with fail
      go_ret
      exact ⟨rfl, by repeat' (first | with_reducible exact hb33 | with_reducible refine Below.drew ?_ | with_reducible refine below_drewN ?_ _ | with_reducible refine Below.alloc ?_ (by have := hb33.size; first | (simp; done) | (simp; omega) | omega) _ | with_reducible refine Below.setCell ?_ (by first | (simp; done) | (simp; omega) | omega) _)⟩

end Go.Proofs.Ytpfldkcbkolgnaa
