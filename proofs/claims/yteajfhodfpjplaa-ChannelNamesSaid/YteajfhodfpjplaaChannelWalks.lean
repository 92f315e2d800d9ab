/- What the functions of package channel return. -/
import Derived.Test.YteajfhodfpjplaaClone64
import Derived.Test.YteajfhodfpjplaaChannelPlain
import Derived.BigRegion
import Derived.BigQuiet
import Derived.Deep.QuietTactic
import Derived.Deep.RegionHeld3
namespace Go.Proofs.Yteajfhodfpjplaa
set_option linter.unusedSimpArgs false
set_option linter.unusedVariables false
set_option linter.unnecessarySimpa false
open Go.RowKit

set_option maxHeartbeats 400000 in
theorem check_any (C : Int) (xs : List Int) (cl : Bool) (a : Option Addr) (cp : Nat) (w : World) :
    Calls Try.prog 20 #[.agg #[.int .i64 C, .slice a xs.length cp, .bool cl]] w fun e w' =>
      e = .returned (.int .i64 (chErr ⟨C, xs, cl⟩)) ∧ Below w.heap.size w w' := by
  by_cases h1 : C < 1
  · have he : chErr ⟨C, xs, cl⟩ = 8 := by simp [chErr, h1]
    have H_he := hid he
    clear he
    go_enter Try.func20, Try.ntmps20
    have hb0 := Below.refl w.heap.size w
    go_wp2_with fail
    go_ret
    exact ⟨ret_int H_he.out.symm, hb0.alloc (Nat.le_refl _) _⟩
  · by_cases h2 : 60 < C
    · have he : chErr ⟨C, xs, cl⟩ = 8 := by simp [chErr, h1, h2]
      have H_he := hid he
      clear he
      go_enter Try.func20, Try.ntmps20
      have hb0 := Below.refl w.heap.size w
      go_wp2_with fail
      go_ret
      exact ⟨ret_int H_he.out.symm, hb0.alloc (Nat.le_refl _) _⟩
    · by_cases h3 : C < xs.length
      · have he : chErr ⟨C, xs, cl⟩ = 8 := by simp [chErr, h1, h2, h3]
        have H_he := hid he
        clear he
        go_enter Try.func20, Try.ntmps20
        have hb0 := Below.refl w.heap.size w
        go_wp2_with fail
        go_ret
        exact ⟨ret_int H_he.out.symm, hb0.alloc (Nat.le_refl _) _⟩
      · have he : chErr ⟨C, xs, cl⟩ = 0 := by simp [chErr, h1, h2, h3]
        have H_he := hid he
        clear he
        go_enter Try.func20, Try.ntmps20
        have hb0 := Below.refl w.heap.size w
        go_wp2_with fail
        go_ret
        exact ⟨ret_int H_he.out.symm, hb0.alloc (Nat.le_refl _) _⟩

set_option maxHeartbeats 400000 in
theorem twin_any (C : Int) (xs : List Int) (cl : Bool) (a : Option Addr) (cp : Nat) (w : World) (hc : CellsAt w a (xs.map (Value.int .u64))) (hb : xs.length ≤ 17592186044415) :
    Calls Try.prog 23 #[.agg #[.int .i64 C, .slice a xs.length cp, .bool cl]] w fun e w' =>
      ∃ a' c', e = .returned (.agg #[.int .i64 C, .slice a' xs.length c', .bool cl]) ∧ OwnX w' w.heap.size 25 1 (.slice a' xs.length c') xs.length (xs.map (Value.int .u64)) ∧ Below w.heap.size w w' := by
  go_enter Try.func23, Try.ntmps23
  have hb0 := Below.refl w.heap.size w
  go_wp2_with fail
  have hl0 : w.heap.size < w.heap.size + 1 + 1 := by omega
  have hl1 : w.heap.size + 1 < w.heap.size + 1 + 1 := by omega
  go_region_held3 (fun w' => w'.cell? ⟨w.heap.size, 0, none⟩ = some (.int .i64 C) ∧ w'.cell? ⟨w.heap.size, 1, none⟩ = some (.slice a xs.length cp) ∧ w'.cell? ⟨w.heap.size, 2, none⟩ = some (.bool cl)) (go_keep) ((go_at_call 25; refine (clone64_any _ _ _ xs _ rfl (((hc.alloc _).alloc _).drew) hb).mono ?_; rintro e w1 ⟨a', c', rfl, hown, hc1⟩; obtain ⟨hcell, hfroz⟩ := bcell hc1; have hz := hc1.size; simp only [World.size_drew, World.size_alloc] at hz))
  have hb1 : Below w.heap.size w w1 := bchain (by repeat' (first | exact hb0 | refine Below.drew ?_ | refine Below.alloc ?_ (by have := hb0.size; first | (simp; done) | (simp; omega) | omega) _ | refine Below.setCell ?_ (by first | (simp; done) | (simp; omega) | omega) _)) hc1
  go_wp2_with fail
  refine bodyPost_ret (v := .agg #[.int .i64 C, .slice a' xs.length c', .bool cl]) (by simp [results, Try.results23, go_sem, hcell]) rfl ⟨_, _, rfl, ?_, (by repeat' (first | exact hb1 | refine Below.drew ?_ | refine Below.alloc ?_ (by have := hb1.size; first | (simp; done) | (simp; omega) | omega) _ | refine Below.setCell ?_ (by first | (simp; done) | (simp; omega) | omega) _))⟩
  exact (((hown.setCell (by simp) _).setCell (by simp) _).setCell (by simp) _).mono (by simp; omega)
end Go.Proofs.Yteajfhodfpjplaa
