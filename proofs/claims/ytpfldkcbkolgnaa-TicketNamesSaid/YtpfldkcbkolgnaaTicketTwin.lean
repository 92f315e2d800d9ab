/- slices.Clone at []Slip; what twin and Twin return. -/
import Derived.Test.YtpfldkcbkolgnaaTicketWalks
namespace Go.Proofs.Ytpfldkcbkolgnaa
set_option linter.unusedSimpArgs false
set_option linter.unusedVariables false
set_option linter.unnecessarySimpa false
open Go.RowKit

theorem info_slip : (Try.prog.info? 38).map (fun i => (i.zero, i.size, i.bytes)) = some (some (.agg #[.int .i64 0, .int .u64 0]), 2, 16) := by kernel_rfl

set_option maxHeartbeats 400000 in
theorem cloneS_any (a : Option Addr) (n c : Nat) (hs : Slips) (w : World) (hn : n = hs.length) (hc : CellsAt w a (cel hs)) (hb : hs.length ≤ 8796093022207) :
    Calls Try.prog 32 #[.slice a n c] w fun e w' =>
      ∃ a' c', e = .returned (.slice a' n c') ∧ OwnX w' w.heap.size 38 2 (.slice a' n c') n (cel hs) ∧ Below w.heap.size w w' := by
  have hq := fun (w : World) => Lib.run_eql_slice_nil w 24 38 a n c 0 0 Try.underlying24
  obtain ⟨i0, hi, hz0, hz1, hz2⟩ := info_parts info_slip
  cases a with
  | none =>
    have hx : hs = [] := by
      rcases hc with h | ⟨b, o, h, _⟩
      · have := cel_len hs; rw [h] at this; simp at this; exact List.eq_nil_of_length_eq_zero (by omega)
      · cases h
    subst hx
    simp only [List.length_nil] at hn
    subst hn
    go_enter Try.func32, Try.ntmps32
    have hb0 := Below.refl w.heap.size w
    go_wp2_with fail
    go_ret
    exact ⟨_, _, rfl, OwnX.nil _ _ _ _, hb0⟩
  | some ad =>
    have Hc := hid hc
    clear hc
    subst hn
    go_enter Try.func32, Try.ntmps32
    have hb0 := Below.refl w.heap.size w
    go_wp2_with (at_builtin; refine stop ?_)
    refine Stop.go ?_
    refine wpList_append_x _ rfl _ _ 24 rfl w.heap.size 38 i0 (.agg #[.int .i64 0, .int .u64 0]) 2 16 Try.underlying24 hi hz0 hz1 hz2 rfl (by decide) _ 0 [] rfl (OwnX.made _ [] _ _ 0 _ (Nat.le_refl _) (by simp [maxLen]) rfl) (some ad) hs.length c (cel hs) rfl (cel_len hs) (Hc.out.alloc _) (cel_one hs) (by unfold maxLen; omega) (by omega) (by simp) ?_
    intro a' c' w1 hown hg _
    rw [Nat.zero_add, List.nil_append] at hown
    go_wp2_with fail
    go_ret
    exact ⟨_, _, rfl, hown, below_grownX (hb0.alloc (Nat.le_refl _) _) hg (by simp) (fun k hk => ((OwnX.made w [] _ 0 0 2 (Nat.le_refl _) (by simp [maxLen]) rfl).lt k hk).1)⟩

set_option maxHeartbeats 1000000 in
theorem dtwin_any (g o r : Int) (hs : Slips) (a : Option Addr) (c : Nat) (w : World) (hc : CellsAt w a (cel hs)) (hb : hs.length ≤ 8796093022207) :
    Calls Try.prog 30 #[.agg #[.int .i64 g, .int .i64 o, .int .i64 r, .slice a hs.length c]] w fun e w' =>
      ∃ a' c', e = .returned (.agg #[.int .i64 g, .int .i64 o, .int .i64 r, .slice a' hs.length c']) ∧ OwnX w' w.heap.size 38 2 (.slice a' hs.length c') hs.length (cel hs) ∧ Below w.heap.size w w' := by
  go_enter Try.func30, Try.ntmps30
  have hb0 := Below.refl w.heap.size w
  go_wp2_with fail
  refine (cloneS_any a hs.length c hs _ rfl ((hc.alloc _).alloc _) hb).mono ?_
  rintro e w1 ⟨a1, c1, rfl, o1, hc1⟩
  have hb1 : Below w.heap.size w w1 := bchain (by repeat' (first | with_reducible exact hb0 | with_reducible refine Below.drew ?_ | with_reducible refine below_drewN ?_ _ | with_reducible refine Below.alloc ?_ (by have := hb0.size; first | (simp; done) | (simp; omega) | omega) _ | with_reducible refine Below.setCell ?_ (by first | (simp; done) | (simp; omega) | omega) _)) hc1
  have D_0 : w1.cell? ⟨w.heap.size, 0, none⟩ = some (.int .i64 g) := (hc1.cell (p := ⟨w.heap.size, 0, none⟩) (by first | (simp; done) | (simp; omega))).trans (by first | (simp; done) | go_simp)
  have D_1 : w1.cell? ⟨w.heap.size, 1, none⟩ = some (.int .i64 o) := (hc1.cell (p := ⟨w.heap.size, 1, none⟩) (by first | (simp; done) | (simp; omega))).trans (by first | (simp; done) | go_simp)
  have D_2 : w1.cell? ⟨w.heap.size, 2, none⟩ = some (.int .i64 r) := (hc1.cell (p := ⟨w.heap.size, 2, none⟩) (by first | (simp; done) | (simp; omega))).trans (by first | (simp; done) | go_simp)
  have D_3 : w1.cell? ⟨w.heap.size, 3, none⟩ = some (.slice a hs.length c) := (hc1.cell (p := ⟨w.heap.size, 3, none⟩) (by first | (simp; done) | (simp; omega))).trans (by first | (simp; done) | go_simp)
  have D_f0 : w1.frozen? ⟨w.heap.size, 0, none⟩ = false := (hc1.frozen (p := ⟨w.heap.size, 0, none⟩) (by first | (simp; done) | (simp; omega))).trans (by first | (simp; done) | go_simp)
  have D_f1 : w1.frozen? ⟨w.heap.size, 1, none⟩ = false := (hc1.frozen (p := ⟨w.heap.size, 1, none⟩) (by first | (simp; done) | (simp; omega))).trans (by first | (simp; done) | go_simp)
  have D_f2 : w1.frozen? ⟨w.heap.size, 2, none⟩ = false := (hc1.frozen (p := ⟨w.heap.size, 2, none⟩) (by first | (simp; done) | (simp; omega))).trans (by first | (simp; done) | go_simp)
  have D_f3 : w1.frozen? ⟨w.heap.size, 3, none⟩ = false := (hc1.frozen (p := ⟨w.heap.size, 3, none⟩) (by first | (simp; done) | (simp; omega))).trans (by first | (simp; done) | go_simp)
  have D_l : w.heap.size < w1.heap.size := Nat.lt_of_lt_of_le (by first | (simp; done) | (simp; omega)) hc1.size
  have E_0 : w1.cell? ⟨w.heap.size + 1, 0, none⟩ = some (.int .i64 0) := (hc1.cell (p := ⟨w.heap.size + 1, 0, none⟩) (by first | (simp; done) | (simp; omega))).trans (by first | (simp; done) | go_simp)
  have E_1 : w1.cell? ⟨w.heap.size + 1, 1, none⟩ = some (.int .i64 0) := (hc1.cell (p := ⟨w.heap.size + 1, 1, none⟩) (by first | (simp; done) | (simp; omega))).trans (by first | (simp; done) | go_simp)
  have E_2 : w1.cell? ⟨w.heap.size + 1, 2, none⟩ = some (.int .i64 0) := (hc1.cell (p := ⟨w.heap.size + 1, 2, none⟩) (by first | (simp; done) | (simp; omega))).trans (by first | (simp; done) | go_simp)
  have E_3 : w1.cell? ⟨w.heap.size + 1, 3, none⟩ = some (.slice none 0 0) := (hc1.cell (p := ⟨w.heap.size + 1, 3, none⟩) (by first | (simp; done) | (simp; omega))).trans (by first | (simp; done) | go_simp)
  have E_f0 : w1.frozen? ⟨w.heap.size + 1, 0, none⟩ = false := (hc1.frozen (p := ⟨w.heap.size + 1, 0, none⟩) (by first | (simp; done) | (simp; omega))).trans (by first | (simp; done) | go_simp)
  have E_f1 : w1.frozen? ⟨w.heap.size + 1, 1, none⟩ = false := (hc1.frozen (p := ⟨w.heap.size + 1, 1, none⟩) (by first | (simp; done) | (simp; omega))).trans (by first | (simp; done) | go_simp)
  have E_f2 : w1.frozen? ⟨w.heap.size + 1, 2, none⟩ = false := (hc1.frozen (p := ⟨w.heap.size + 1, 2, none⟩) (by first | (simp; done) | (simp; omega))).trans (by first | (simp; done) | go_simp)
  have E_f3 : w1.frozen? ⟨w.heap.size + 1, 3, none⟩ = false := (hc1.frozen (p := ⟨w.heap.size + 1, 3, none⟩) (by first | (simp; done) | (simp; omega))).trans (by first | (simp; done) | go_simp)
  have E_l : w.heap.size + 1 < w1.heap.size := Nat.lt_of_lt_of_le (by first | (simp; done) | (simp; omega)) hc1.size
  clear hc1 hb0
  have hne : w.heap.size ≠ w.heap.size + 1 := by omega
  go_wp2_with fail
  refine bodyPost_ret (v := .agg #[.int .i64 g, .int .i64 o, .int .i64 r, .slice a1 hs.length c1]) (by simp [results, Try.results30, go_sem, *]) rfl ⟨_, _, rfl, ?_, (by repeat' (first | with_reducible exact hb1 | with_reducible refine Below.drew ?_ | with_reducible refine below_drewN ?_ _ | with_reducible refine Below.alloc ?_ (by have := hb1.size; first | (simp; done) | (simp; omega) | omega) _ | with_reducible refine Below.setCell ?_ (by first | (simp; done) | (simp; omega) | omega) _))⟩
  exact (((((o1.setCell (by first | (simp; done) | (simp; omega) | omega) _).setCell (by first | (simp; done) | (simp; omega) | omega) _).setCell (by first | (simp; done) | (simp; omega) | omega) _).setCell (by first | (simp; done) | (simp; omega) | omega) _).setCell (by first | (simp; done) | (simp; omega) | omega) _).mono (by first | (simp; done) | (simp; omega) | omega)

theorem info_i64 : (Try.prog.info? 3).map (fun i => (i.zero, i.size, i.bytes)) = some (some (.int .i64 0), 1, 8) := by kernel_rfl

set_option maxHeartbeats 1000000 in
theorem rdtwin_any (g o r : Int) (hs : Slips) (a : Option Addr) (c : Nat) (w : World) (hc : CellsAt w a (cel hs)) (hb : hs.length ≤ 8796093022207) :
    Calls Try.prog 14 #[.agg #[.int .i64 g, .int .i64 o, .int .i64 r, .slice a hs.length c]] w fun e w' =>
      ∃ a' c', e = .returned (.agg #[.int .i64 g, .int .i64 o, .int .i64 r, .slice a' hs.length c']) ∧ OwnX w' w.heap.size 38 2 (.slice a' hs.length c') hs.length (cel hs) ∧ Below w.heap.size w w' := by
  obtain ⟨i0, hi, hz0, hz1, hz2⟩ := info_parts info_slip
  have hm := fun o1 o2 => OwnX.made ((w.alloc o1).alloc o2) [] (w.heap.size + 2) 38 0 2 (by simp) (by simp [maxLen]) rfl
  simp only [World.size_alloc] at hm
  have Hm := hid hm
  have Hc := hid hc
  clear hc hm
  go_enter Try.func14, Try.ntmps14
  have hb0 := Below.refl w.heap.size w
  go_wp2_with (at_builtin; refine stop ?_)
  refine Stop.go ?_
  refine wpList_append_x _ rfl _ _ 24 rfl (w.heap.size + 2) 38 i0 (.agg #[.int .i64 0, .int .u64 0]) 2 16 Try.underlying24 hi hz0 hz1 hz2 rfl (by decide) _ 0 [] rfl (Hm.out _ _) a hs.length c (cel hs) rfl (cel_len hs) (((Hc.out.alloc _).alloc _).alloc _) (cel_one hs) (by unfold maxLen; omega) (by omega) (by first | (simp; done) | (simp; omega) | omega) ?_
  intro a' c' w1 hown hg hk
  rw [Nat.zero_add, List.nil_append] at hown
  replace hg : World.grownBy _ w1 (Value.slice (some ⟨w.heap.size + 1 + 1, 0, none⟩) 0 0).ownBlock := hg
  obtain ⟨hcell, hfroz, hz⟩ := gcell0 (H := w.heap.size + 1 + 1) hg
  simp only [World.size_alloc] at hz
  have D_0 : w1.cell? ⟨w.heap.size, 0, none⟩ = some (.int .i64 g) := (hcell (w.heap.size) 0 (by first | (simp; done) | (simp; omega) | omega) (by first | (simp; done) | (simp; omega) | omega)).trans (by first | (simp; done) | go_simp)
  have D_f0 : w1.frozen? ⟨w.heap.size, 0, none⟩ = false := (hfroz (w.heap.size) 0 (by first | (simp; done) | (simp; omega) | omega) (by first | (simp; done) | (simp; omega) | omega)).trans (by first | (simp; done) | go_simp)
  have D_1 : w1.cell? ⟨w.heap.size, 1, none⟩ = some (.int .i64 o) := (hcell (w.heap.size) 1 (by first | (simp; done) | (simp; omega) | omega) (by first | (simp; done) | (simp; omega) | omega)).trans (by first | (simp; done) | go_simp)
  have D_f1 : w1.frozen? ⟨w.heap.size, 1, none⟩ = false := (hfroz (w.heap.size) 1 (by first | (simp; done) | (simp; omega) | omega) (by first | (simp; done) | (simp; omega) | omega)).trans (by first | (simp; done) | go_simp)
  have D_2 : w1.cell? ⟨w.heap.size, 2, none⟩ = some (.int .i64 r) := (hcell (w.heap.size) 2 (by first | (simp; done) | (simp; omega) | omega) (by first | (simp; done) | (simp; omega) | omega)).trans (by first | (simp; done) | go_simp)
  have D_f2 : w1.frozen? ⟨w.heap.size, 2, none⟩ = false := (hfroz (w.heap.size) 2 (by first | (simp; done) | (simp; omega) | omega) (by first | (simp; done) | (simp; omega) | omega)).trans (by first | (simp; done) | go_simp)
  have D_3 : w1.cell? ⟨w.heap.size, 3, none⟩ = some (.slice a hs.length c) := (hcell (w.heap.size) 3 (by first | (simp; done) | (simp; omega) | omega) (by first | (simp; done) | (simp; omega) | omega)).trans (by first | (simp; done) | go_simp)
  have D_f3 : w1.frozen? ⟨w.heap.size, 3, none⟩ = false := (hfroz (w.heap.size) 3 (by first | (simp; done) | (simp; omega) | omega) (by first | (simp; done) | (simp; omega) | omega)).trans (by first | (simp; done) | go_simp)
  have E_0 : w1.cell? ⟨w.heap.size + 1, 0, none⟩ = some (.int .i64 0) := (hcell (w.heap.size + 1) 0 (by first | (simp; done) | (simp; omega) | omega) (by first | (simp; done) | (simp; omega) | omega)).trans (by first | (simp; done) | go_simp)
  have E_f0 : w1.frozen? ⟨w.heap.size + 1, 0, none⟩ = false := (hfroz (w.heap.size + 1) 0 (by first | (simp; done) | (simp; omega) | omega) (by first | (simp; done) | (simp; omega) | omega)).trans (by first | (simp; done) | go_simp)
  have E_1 : w1.cell? ⟨w.heap.size + 1, 1, none⟩ = some (.int .i64 0) := (hcell (w.heap.size + 1) 1 (by first | (simp; done) | (simp; omega) | omega) (by first | (simp; done) | (simp; omega) | omega)).trans (by first | (simp; done) | go_simp)
  have E_f1 : w1.frozen? ⟨w.heap.size + 1, 1, none⟩ = false := (hfroz (w.heap.size + 1) 1 (by first | (simp; done) | (simp; omega) | omega) (by first | (simp; done) | (simp; omega) | omega)).trans (by first | (simp; done) | go_simp)
  have E_2 : w1.cell? ⟨w.heap.size + 1, 2, none⟩ = some (.int .i64 0) := (hcell (w.heap.size + 1) 2 (by first | (simp; done) | (simp; omega) | omega) (by first | (simp; done) | (simp; omega) | omega)).trans (by first | (simp; done) | go_simp)
  have E_f2 : w1.frozen? ⟨w.heap.size + 1, 2, none⟩ = false := (hfroz (w.heap.size + 1) 2 (by first | (simp; done) | (simp; omega) | omega) (by first | (simp; done) | (simp; omega) | omega)).trans (by first | (simp; done) | go_simp)
  have E_3 : w1.cell? ⟨w.heap.size + 1, 3, none⟩ = some (.slice none 0 0) := (hcell (w.heap.size + 1) 3 (by first | (simp; done) | (simp; omega) | omega) (by first | (simp; done) | (simp; omega) | omega)).trans (by first | (simp; done) | go_simp)
  have E_f3 : w1.frozen? ⟨w.heap.size + 1, 3, none⟩ = false := (hfroz (w.heap.size + 1) 3 (by first | (simp; done) | (simp; omega) | omega) (by first | (simp; done) | (simp; omega) | omega)).trans (by first | (simp; done) | go_simp)
  have hbw : Below w.heap.size w w1 := below_grownX ((((hb0.alloc (by first | (simp; done) | (simp; omega) | omega) _).alloc (by first | (simp; done) | (simp; omega) | omega) _).alloc (by first | (simp; done) | (simp; omega) | omega) _)) hg (by first | (simp; done) | (simp; omega) | omega) (fun k hk => by obtain rfl : w.heap.size + 1 + 1 = k := (by simpa [Value.ownBlock] using hk); omega)
  have hne : w.heap.size ≠ w.heap.size + 1 := by omega
  have hz1 : w.heap.size < w1.heap.size := by omega
  have hz2 : w.heap.size + 1 < w1.heap.size := by omega
  clear hcell hfroz hg hk
  go_wp2_with fail
  refine bodyPost_ret (v := .agg #[.int .i64 g, .int .i64 o, .int .i64 r, .slice a' hs.length c']) (by simp [results, Try.results14, go_sem, *]) rfl ⟨_, _, rfl, ?_, (by repeat' (first | with_reducible exact hbw | with_reducible refine Below.drew ?_ | with_reducible refine below_drewN ?_ _ | with_reducible refine Below.alloc ?_ (by have := hbw.size; first | (simp; done) | (simp; omega) | omega) _ | with_reducible refine Below.setCell ?_ (by first | (simp; done) | (simp; omega) | omega) _))⟩
  exact (((((hown.setCell (by first | (simp; done) | (simp; omega) | omega) _).setCell (by first | (simp; done) | (simp; omega) | omega) _).setCell (by first | (simp; done) | (simp; omega) | omega) _).setCell (by first | (simp; done) | (simp; omega) | omega) _).setCell (by first | (simp; done) | (simp; omega) | omega) _).mono (by first | (simp; done) | (simp; omega) | omega)

end Go.Proofs.Ytpfldkcbkolgnaa
