/- What Twin, New return. -/
import Derived.Test.YtoelndaeemlefaaSchedMore
namespace Go.Proofs.Ytoelndaeemlefaa
set_option linter.unusedSimpArgs false
set_option linter.unusedVariables false
set_option linter.unnecessarySimpa false
open Go.RowKit

set_option maxHeartbeats 4000000 in
theorem rtwin_any (l a : List Int) (la aa : Option Addr) (lc ac : Nat) (w : World) (hl : CellsAt w la (l.map (Value.int .i64))) (ha : CellsAt w aa (a.map (Value.int .i64))) (hbl : l.length ≤ 17592186044415) (hba : a.length ≤ 17592186044415) :
    Calls Try.prog 10 #[.agg #[.slice la l.length lc, .slice aa a.length ac]] w fun e w' =>
      ∃ la' lc' aa' ac', e = .returned (.agg #[.slice la' l.length lc', .slice aa' a.length ac']) ∧ CellsAt w' la' (l.map (Value.int .i64)) ∧ CellsAt w' aa' (a.map (Value.int .i64)) ∧ (0 < l.length → 0 < a.length → Tk w' w.heap.size w'.heap.size la' aa' lc' l a ∧ ∀ ad, aa' = some ad → w.heap.size ≤ ad.block) ∧ Below w.heap.size w w' := by
  obtain ⟨i0, ii, iz0, iz1, iz2⟩ := info_parts info_i64
  have hl0 : w.heap.size < w.heap.size + 1 := by omega
  have hl1 : w.heap.size < w.heap.size + 1 + 1 := by omega
  have hl2 : w.heap.size < w.heap.size + 1 + 1 + 1 := by omega
  have hk1 : w.heap.size + 1 < w.heap.size + 1 + 1 := by omega
  have hk2 : w.heap.size + 1 < w.heap.size + 1 + 1 + 1 := by omega
  have hk3 : w.heap.size + 1 < w.heap.size + 1 + 1 + 1 + 1 := by omega
  have hl3 : w.heap.size < w.heap.size + 1 + 1 + 1 + 1 := by omega
  go_enter Try.func10, Try.ntmps10
  have hb0 := Below.refl w.heap.size w
  go_wp2_with fail
  go_region_held3 (fun w' => w'.cell? ⟨w.heap.size, 0, none⟩ = some (.slice la l.length lc) ∧ w'.cell? ⟨w.heap.size, 1, none⟩ = some (.slice aa a.length ac)) (go_keep) ((first
  |
    (refine step_append_c0 _ (by rfl) _ _ _ (by rfl) 3 i0 (.int .i64 0) 1 8 Try.underlying22 ii iz0 iz1 iz2 rfl (by omega) _ (by rfl) la l.length lc (l.map (Value.int .i64)) (by rfl) (by simp) ?_ (ints_oneCell _ _) (by unfold maxLen; omega) (by omega) ?_; (focus (repeat' (first | with_reducible exact hl | with_reducible refine CellsAt.alloc ?_ _ | with_reducible refine CellsAt.drew ?_ | with_reducible refine CellsAt.later ?_ hcA))); intro aL cL wL hownL hcL; obtain ⟨hcellL, hfrozL⟩ := bcell hcL; have hzL := hcL.size; (try simp only [World.size_drew, World.size_alloc] at hzL); have hyL : w.heap.size < wL.heap.size := (by omega); have hxL : w.heap.size < wL.heap.size + 1 := (by omega); have hvL : w.heap.size + 1 < wL.heap.size := (by omega); have huL : w.heap.size + 1 < wL.heap.size + 1 := (by omega))
  |
    (refine step_append_c0 _ (by rfl) _ _ _ (by rfl) 3 i0 (.int .i64 0) 1 8 Try.underlying22 ii iz0 iz1 iz2 rfl (by omega) _ (by rfl) aa a.length ac (a.map (Value.int .i64)) (by rfl) (by simp) ?_ (ints_oneCell _ _) (by unfold maxLen; omega) (by omega) ?_; (focus (repeat' (first | with_reducible exact ha | with_reducible refine CellsAt.alloc ?_ _ | with_reducible refine CellsAt.drew ?_ | with_reducible refine CellsAt.later ?_ hcL))); intro aA cA wA hownA hcA; obtain ⟨hcellA, hfrozA⟩ := bcell hcA; have hzA := hcA.size; (try simp only [World.size_drew, World.size_alloc] at hzA); have hyA : w.heap.size < wA.heap.size := (by omega); have hxA : w.heap.size < wA.heap.size + 1 := (by omega); have hvA : w.heap.size + 1 < wA.heap.size := (by omega); have huA : w.heap.size + 1 < wA.heap.size + 1 := (by omega))
  ))
  all_goals (
    have hb1 : Below w.heap.size w wL := bchain (by repeat' (first | with_reducible exact hb0 | with_reducible refine Below.drew ?_ | with_reducible refine below_drewN ?_ _ | with_reducible refine Below.alloc ?_ (by have := hb0.size; first | (simp; done) | (simp; omega) | omega) _ | with_reducible refine Below.setCell ?_ (by first | (simp; done) | (simp; omega) | omega) _)) hcL
    have hb2 : Below w.heap.size w wA := bchain (by repeat' (first | exact hb1 | refine Below.drew ?_ | refine Below.alloc ?_ (by have := hb1.size; first | (simp; done) | (simp; omega) | omega) _)) hcA
    have hLA : Below wL.heap.size wL wA := by first | exact hcA | exact bchain ((Below.refl _ _).alloc (Nat.le_refl _) _) hcA
    obtain ⟨t1, t2, t3⟩ := Tk.of (B := w.heap.size + 2) hownL hownA (by simp) (by simp) hLA
    have f1 := own_from (B := w.heap.size + 2) hownL (by simp)
    have f2 := own_from (B := w.heap.size + 2) hownA (by have := hLA.size; have := hb1.size; simp; omega)
    go_wp2_with fail
    refine bodyPost_ret (v := .agg #[.slice aL l.length cL, .slice aA a.length cA]) (by simp [results, Try.results10, go_sem, *]) rfl ⟨aL, cL, aA, cA, rfl, ?_, ?_, fun g1 g2 => ?_, (by repeat' (first | with_reducible exact hb2 | with_reducible refine Below.drew ?_ | with_reducible refine below_drewN ?_ _ | with_reducible refine Below.alloc ?_ (by have := hb2.size; first | (simp; done) | (simp; omega) | omega) _ | with_reducible refine Below.setCell ?_ (by first | (simp; done) | (simp; omega) | omega) _))⟩
    · exact (t1.setFarE f1 (by simp) _).setFarE f1 (by simp) _
    · exact (t2.setFarE f2 (by simp) _).setFarE f2 (by simp) _
    · obtain ⟨t4, t5⟩ := t3 g1 g2
      refine ⟨?_, fun ad e => by have := t5 ad e; omega⟩
      exact (((t4.far (p := ⟨w.heap.size + 1, 0, none⟩) (by simp) t5 _).far (p := ⟨w.heap.size + 1, 1, none⟩) (by simp) t5 _).mono (by omega)).size (by simp))

end Go.Proofs.Ytoelndaeemlefaa
