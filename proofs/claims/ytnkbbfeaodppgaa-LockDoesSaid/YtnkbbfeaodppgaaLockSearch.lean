/- slices.BinarySearch at []int. -/
import Derived.Test.YtnkbbfeaodppgaaLockRefs
namespace Go.Proofs.Ytnkbbfeaodppgaa
set_option linter.unusedSimpArgs false
set_option linter.unusedVariables false
set_option linter.unnecessarySimpa false
open Go.RowKit

def lbI : List Int → Int → Nat
  | [], _ => 0
  | x :: r, v => if x < v then lbI r v + 1 else 0
def fndI (xs : List Int) (v : Int) : Bool := decide (lbI xs v < xs.length) && (xs[lbI xs v]?.getD 0 == v)
theorem lbI_le : ∀ (xs : List Int) (v : Int), lbI xs v ≤ xs.length
  | [], _ => Nat.le_refl _
  | x :: r, v => by
    unfold lbI
    have := lbI_le r v
    split
    · simp only [List.length_cons]; omega
    · exact Nat.zero_le _
theorem lbI_iff : ∀ (xs : List Int) (v : Int), xs.Pairwise (· < ·) → ∀ k, k < xs.length → (xs[k]?.getD 0 < v ↔ k < lbI xs v)
  | [], _, _, _, h => by simp at h
  | x :: r, v, hp, 0, _ => by
    unfold lbI
    simp only [List.getElem?_cons_zero, Option.getD_some]
    split
    · exact ⟨fun _ => Nat.succ_pos _, fun _ => ‹_›⟩
    · exact ⟨fun h => absurd h ‹_›, fun h => absurd h (Nat.lt_irrefl _)⟩
  | x :: r, v, hp, k + 1, hk => by
    have hkr : k < r.length := by simpa using hk
    have ih := lbI_iff r v (List.pairwise_cons.1 hp).2 k hkr
    have hx := (List.pairwise_cons.1 hp).1 (r[k]) (List.getElem_mem hkr)
    simp only [List.getElem?_cons_succ]
    unfold lbI
    rw [List.getElem?_eq_getElem hkr] at ih ⊢
    simp only [Option.getD_some] at ih ⊢
    split
    · rw [ih]; omega
    · constructor
      · intro h; omega
      · intro h; omega
theorem rsOk_inc {rs : List Int} (h : rsOk rs = true) : rs.Pairwise (· < ·) := by
  have hstep : ∀ i, i + 1 < rs.length → rs[i]?.getD 0 < rs[i + 1]?.getD 0 := fun i hi => by
    unfold rsOk at h
    rw [List.all_eq_true] at h
    have := h (i + 1) (List.mem_range.2 hi)
    unfold rsBad at this
    rw [Nat.add_sub_cancel] at this
    simp at this
    omega
  rw [List.pairwise_iff_getElem]
  intro i j hi hj hij
  obtain ⟨d, rfl⟩ : ∃ d, j = i + 1 + d := ⟨j - (i + 1), by omega⟩
  induction d with
  | zero =>
    have := hstep i hj
    rw [List.getElem?_eq_getElem hi, List.getElem?_eq_getElem (by omega)] at this
    simpa using this
  | succ d ih =>
    have h1 := ih (by omega) (by omega)
    have h2 := hstep (i + 1 + d) (by omega)
    rw [List.getElem?_eq_getElem (by omega), List.getElem?_eq_getElem (by omega)] at h2
    simp only [Option.getD_some] at h2
    have e : i + 1 + (d + 1) = i + 1 + d + 1 := by omega
    simp only [e]
    omega
theorem ret_ib {a a' : Int} {b b' : Bool} (h1 : a = a') (h2 : b = b') : Ending.returned (.tuple #[.int .i64 a, .bool b]) = .returned (.tuple #[.int .i64 a', .bool b']) := by rw [h1, h2]

theorem nanC_any (x : Int) (w : World) :
    Calls Try.prog 53 #[.int .i64 x] w fun e w' =>
      e = .returned (.bool false) ∧ w = w' := by
  go_enter Try.func53, Try.ntmps53
  have hb0 := Below.refl w.heap.size w
  go_wp2_with fail
  go_ret
  exact ⟨by simp, rfl⟩
theorem nanS_any (x : Int) (w : World) :
    Calls Try.prog 50 #[.int .i64 x] w fun e w' =>
      e = .returned (.bool false) ∧ w = w' := by
  go_enter Try.func50, Try.ntmps50
  have hb0 := Below.refl w.heap.size w
  go_wp2_with fail
  go_ret
  exact ⟨by simp, rfl⟩
theorem less_any (x y : Int) (w : World) :
    Calls Try.prog 49 #[.int .i64 x, .int .i64 y] w fun e w' =>
      e = .returned (.bool (decide (x < y))) ∧ w = w' := by
  by_cases h : x < y
  · go_enter Try.func49, Try.ntmps49
    have hb0 := Below.refl w.heap.size w
    go_wp2_with fail
    refine (nanC_any x _).mono ?_
    rintro e w' ⟨rfl, rfl⟩
    go_wp2_with fail
    go_ret
    exact ⟨by simp [h], rfl⟩
  · go_enter Try.func49, Try.ntmps49
    have hb0 := Below.refl w.heap.size w
    go_wp2_with fail
    refine (nanC_any x _).mono ?_
    rintro e w' ⟨rfl, rfl⟩
    go_wp2_with fail
    go_ret
    exact ⟨by simp [h], rfl⟩

set_option maxRecDepth 100000 in
set_option maxHeartbeats 2000000 in
theorem search_any (xs : List Int) (v : Int) (a : Option Addr) (n c : Nat) (w : World) (hn : n = xs.length) (hx : CellsAt w a (xs.map (Value.int .i64))) (hml : n ≤ 1000000) (hinc : xs.Pairwise (· < ·)) :
    Calls Try.prog 44 #[.slice a n c, .int .i64 v] w fun e w' =>
      e = .returned (.tuple #[.int .i64 (lbI xs v), .bool (fndI xs v)]) ∧ w = w' := by
  obtain ⟨L, hL⟩ : ∃ L, lbI xs v = L := ⟨_, rfl⟩
  have hLn : L ≤ n := by rw [← hL, hn]; exact lbI_le xs v
  have hiff := fun k hk => lbI_iff xs v hinc k hk
  rw [hL] at hiff
  rw [hL]
  have hf : fndI xs v = (decide (L < n) && (xs[L]?.getD 0 == v)) := by unfold fndI; rw [hL, hn]
  have H_hn := Box.mk hn
  have H_hiff := Box.mk hiff
  have H_hf := Box.mk hf
  have H_hL := Box.mk hL
  have H_hinc := Box.mk hinc
  clear hn hiff hf hL hinc
  go_enter Try.func44, Try.ntmps44
  have hb0 := Below.refl w.heap.size w
  go_wp2_with fail
  go_loopw [7, 8] (fun p q wr => ∃ i j : Nat, i ≤ L ∧ L ≤ j ∧ j ≤ n ∧ p = .int .i64 i ∧ q = .int .i64 j ∧ wr = w) (fun p q _ => (intOf q).toNat - (intOf p).toNat)
  case atStart => exact ⟨0, n, Nat.zero_le _, hLn, Nat.le_refl _, rfl, rfl, rfl⟩
  case round =>
    obtain ⟨i, j, h5, h6, h7, rfl, rfl, hwr⟩ := hrel
    obtain rfl : w = wr := hwr.symm
    clear hwr
    by_cases hlt : i < j
    · obtain ⟨k, hk⟩ : ∃ k, (i + j) / 2 = k := ⟨_, rfl⟩
      have hki : i ≤ k := by omega
      have hkj : k < j := by omega
      have hkl : k < xs.length := by have := H_hn.out; omega
      have hlt' : (i : Int) < (j : Int) := by omega
      have hkl' : (k : Int) < (n : Int) := by omega
      have hdiv : ((i : Int) + (j : Int)) / 2 = (k : Int) := by omega
      have hk1 := H_hiff.out k hkl
      obtain ⟨b, oo, rfl, cl⟩ := hx.int (by omega)
      replace cl := cl k hkl
      obtain ⟨x, hxx⟩ : ∃ x, xs[k]?.getD 0 = x := ⟨_, rfl⟩
      rw [hxx] at cl hk1
      have hwi : IntKind.i64.wrap ((i : Int) + (j : Int)) = (i : Int) + (j : Int) := by rw [IntKind.wrap_i64]; omega
      by_cases hp : x < v
      · have hkL := hk1.1 hp
        have H_hk := Box.mk hk
        have H_hk1 := Box.mk hk1
        have H_hxx := Box.mk hxx
        have H_hkl := Box.mk hkl
        clear hk hk1 hxx hkl
        go_wp2_with fail
        with_reducible refine (less_any x v _).mono ?_
        rintro e wx ⟨rfl, rfl⟩
        go_wp2_with fail
        go_roundw
        case rel => exact ⟨k + 1, j, by omega, h6, h7, by go_num, rfl, by first | rfl | trivial⟩
        case measure => simp [intOf]; omega
      · have hkL : L ≤ k := by
          rcases Nat.lt_or_ge k L with h | h
          · exact absurd (hk1.2 h) hp
          · exact h
        have hvx : v ≤ x := by omega
        have H_hk := Box.mk hk
        have H_hk1 := Box.mk hk1
        have H_hxx := Box.mk hxx
        have H_hkl := Box.mk hkl
        clear hk hk1 hxx hkl
        go_wp2_with fail
        with_reducible refine (less_any x v _).mono ?_
        rintro e wx ⟨rfl, rfl⟩
        go_wp2_with fail
        go_roundw
        case rel => exact ⟨i, k, h5, hkL, by omega, rfl, rfl, by first | rfl | trivial⟩
        case measure => simp [intOf]; omega
    · obtain rfl : i = j := by omega
      obtain rfl : i = L := by omega
      by_cases hl : i < n
      · have hl' : (i : Int) < (n : Int) := by omega
        have hkl : i < xs.length := by have := H_hn.out; omega
        obtain ⟨b, oo, rfl, cl⟩ := hx.int (by omega)
        replace cl := cl i hkl
        obtain ⟨x, hxx⟩ : ∃ x, xs[i]?.getD 0 = x := ⟨_, rfl⟩
        rw [hxx] at cl
        by_cases hp : x = v
        · have he : fndI xs v = true := by rw [H_hf.out, hxx]; simp [hl, hp]
          have hb : (x == v) = true := beq_iff_eq.2 hp
          clear hp
          have H_hxx := Box.mk hxx
          have H_hkl := Box.mk hkl
          have H_he := Box.mk he
          clear hxx hkl he
          go_wp2_with fail
          go_ret2
          exact ⟨ret_ib rfl H_he.out.symm, rfl⟩
        · have he : fndI xs v = false := by rw [H_hf.out, hxx]; simp [hp]
          have hb : (x == v) = false := beq_eq_false_iff_ne.2 hp
          clear hp
          have H_hxx := Box.mk hxx
          have H_hkl := Box.mk hkl
          have H_he := Box.mk he
          clear hxx hkl he
          go_wp2_with fail
          with_reducible refine (nanS_any x _).mono ?_
          rintro e wx ⟨rfl, rfl⟩
          go_wp2_with fail
          go_ret2
          exact ⟨ret_ib rfl H_he.out.symm, rfl⟩
      · have he : fndI xs v = false := by rw [H_hf.out]; simp [hl]
        have hd : decide ((i : Int) < (n : Int)) = false := decide_eq_false (by omega)
        have hd2 : decide (i < n) = false := decide_eq_false hl
        have hge : (n : Int) ≤ (i : Int) := by omega
        have H_he := Box.mk he
        clear he
        go_wp2_with fail
        go_ret2
        exact ⟨ret_ib rfl H_he.out.symm, rfl⟩

end Go.Proofs.Ytnkbbfeaodppgaa
