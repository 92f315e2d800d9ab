/- Add, of the program and of the reference. -/
import Derived.Test.YtlilodfddojlhaaDoorDigTail
import Derived.Test.YtlilodfddojlhaaDoorQTail
namespace Go.Proofs.YtlilodfddojlhaaDoor
set_option linter.unusedSimpArgs false
set_option linter.unusedVariables false
set_option linter.unnecessarySimpa false
open Go.RowKit

/-- What Add returns: the words, the rest, the count, the error. -/
def addM (hs rs : List Int) (N : Int) (ys : List Int) : List Int × List Int × Int × Int :=
  if vdB N rs.length = false then (List.replicate 8 0, [], 0, 8) else if 200000 - N < (ys.length : Int) then (List.replicate 8 0, [], 0, 4) else (mill hs (rs ++ ys), (rs ++ ys).drop ((rs ++ ys).length / 64 * 64), N + ys.length, 0)
def MillR (B : Nat) (w : World) (e : Ending) (r : List Int × List Int × Int × Int) : Prop :=
  ∃ (u : V8) (a : Option Addr) (m c : Nat), e = .returned (.tuple #[.agg #[.int .u32 u.a, .int .u32 u.b, .int .u32 u.c, .int .u32 u.d, .int .u32 u.e, .int .u32 u.f, .int .u32 u.g, .int .u32 u.z, .slice a m c, .int .i64 r.2.2.1], .int .i64 r.2.2.2]) ∧ u.list = r.1 ∧ m = r.2.1.length ∧ CellsAt w a (r.2.1.map (Value.int .u8)) ∧ (r.2.1 ≠ [] → ∀ ad, a = some ad → B ≤ ad.block)
theorem slice_from_any {P : Program} {t : TypeId} (ht : P.underlying t = some (.slice (P.elem t))) (hsz : ∀ w, (sizeOf (P.elem t)).run P w = .ok 1 w) (a : Option Addr) (len cap : Nat) (k : Nat) (hk : k ≤ len) (hc : len ≤ cap) :
    ∃ a' : Option Addr, (∀ w', (Instr.slice t (.slice a len cap) (some (.int .i64 k)) none none).run P w' = .ok (.slice a' (len - k) (cap - k)) w') ∧ (∀ w cs, CellsAt w a cs → cs.length = len → CellsAt w a' (cs.drop k)) ∧ (∀ ad', a' = some ad' → ∃ ad, a = some ad ∧ ad'.block = ad.block) := by
  refine ⟨if cap = k then a else a.map (·.add (k * 1)), fun w' => ?_, fun w cs h hl => ?_, fun ad' e => ?_⟩
  · rw [run_slice_l w' t _ _ _ ht .i64 k (by omega) (by omega), hsz]
    simp [Result.andThen, sliced]
  · by_cases c : cap = k
    · rw [if_pos c]; left; rw [List.drop_eq_nil_iff]; omega
    · rw [if_neg c]
      rcases h with rfl | ⟨b, o, rfl, h⟩
      · left; simp
      · have := CellsAt.dropK (w := w) (b := b) (o := o) (cs := cs) (.inr ⟨b, o, rfl, h⟩) k
        simpa [Addr.add_lit] using this
  · by_cases c : cap = k
    · rw [if_pos c] at e; exact ⟨ad', e, rfl⟩
    · rw [if_neg c] at e
      rcases a with _ | ad
      · cases e
      · cases e; exact ⟨ad, rfl, by unfold Addr.add; split <;> rfl⟩
theorem MillR.zero (B : Nat) (w : World) (er : Int) : MillR B w (.returned (.tuple #[.agg #[.int .u32 0, .int .u32 0, .int .u32 0, .int .u32 0, .int .u32 0, .int .u32 0, .int .u32 0, .int .u32 0, .slice none 0 0, .int .i64 0], .int .i64 er])) (List.replicate 8 0, [], 0, er) :=
  ⟨⟨0, 0, 0, 0, 0, 0, 0, 0⟩, none, 0, 0, rfl, rfl, rfl, .inl rfl, fun _ ad e => by cases e⟩

set_option maxRecDepth 100000 in
set_option maxHeartbeats 4000000 in
theorem add_any (v : V8) (rs ys : List Int) (N : Int) (ra ba : Option Addr) (rn rc bn bc : Nat) (w : World) (hv : v.ok) (hrn : rn = rs.length) (hbn : bn = ys.length) (hr : CellsAt w ra (rs.map (Value.int .u8))) (hy : CellsAt w ba (ys.map (Value.int .u8)))
    (hr8 : Bytes8 rs) (hy8 : Bytes8 ys) (hK : CellsAt w (some ⟨0, 0, none⟩) (kcs.map (Value.int .u32))) (hw0 : 0 < w.heap.size) (hb : rn + bn ≤ 140737488355327) :
    Calls Tryd.prog 9 #[.agg #[.int .u32 v.a, .int .u32 v.b, .int .u32 v.c, .int .u32 v.d, .int .u32 v.e, .int .u32 v.f, .int .u32 v.g, .int .u32 v.z, .slice ra rn rc, .int .i64 N], .slice ba bn bc] w fun e w' =>
      MillR w.heap.size w' e (addM v.list rs N ys) ∧ Below w.heap.size w w' := by
  by_cases h1 : vdB N rn = true
  · have hN : 0 ≤ N ∧ N ≤ 200000 := by unfold vdB at h1; simp at h1; omega
    obtain ⟨hN0, hN1⟩ := hN
    by_cases h2 : (200000 : Int) - N < (bn : Int)
    · have HA := hid (show addM v.list rs N ys = (List.replicate 8 0, [], 0, 4) by unfold addM; rw [← hrn, ← hbn, if_neg (by rw [h1]; simp), if_pos h2])
      have H1 := hid h1
      clear hrn hbn h1 hr hy hb
      go_enter Tryd.func9, Tryd.ntmps9
      have hb0 := Below.refl w.heap.size w
      go_wp2_with fail
      with_reducible refine (valid_any v ra rn rc N _).mono ?_
      rintro e w1 ⟨rfl, hc1⟩
      have hb1 : Below w.heap.size w w1 := bchain (by repeat' (first | with_reducible exact hb0 | with_reducible refine Below.drew ?_ | with_reducible refine below_drewN ?_ _ | with_reducible refine Below.alloc ?_ (by have := hb0.size; first | (simp; done) | (simp; omega) | omega) _ | with_reducible refine Below.setCell ?_ (by first | (simp; done) | (simp; omega) | omega) _)) hc1
      have M_0 : w1.cell? ⟨w.heap.size, 0, none⟩ = some (.int .u32 v.a) := (hc1.cell (p := ⟨w.heap.size, 0, none⟩) (by first | (simp; done) | (simp; omega))).trans (by first | (simp; done) | go_simp)
      have M_1 : w1.cell? ⟨w.heap.size, 1, none⟩ = some (.int .u32 v.b) := (hc1.cell (p := ⟨w.heap.size, 1, none⟩) (by first | (simp; done) | (simp; omega))).trans (by first | (simp; done) | go_simp)
      have M_2 : w1.cell? ⟨w.heap.size, 2, none⟩ = some (.int .u32 v.c) := (hc1.cell (p := ⟨w.heap.size, 2, none⟩) (by first | (simp; done) | (simp; omega))).trans (by first | (simp; done) | go_simp)
      have M_3 : w1.cell? ⟨w.heap.size, 3, none⟩ = some (.int .u32 v.d) := (hc1.cell (p := ⟨w.heap.size, 3, none⟩) (by first | (simp; done) | (simp; omega))).trans (by first | (simp; done) | go_simp)
      have M_4 : w1.cell? ⟨w.heap.size, 4, none⟩ = some (.int .u32 v.e) := (hc1.cell (p := ⟨w.heap.size, 4, none⟩) (by first | (simp; done) | (simp; omega))).trans (by first | (simp; done) | go_simp)
      have M_5 : w1.cell? ⟨w.heap.size, 5, none⟩ = some (.int .u32 v.f) := (hc1.cell (p := ⟨w.heap.size, 5, none⟩) (by first | (simp; done) | (simp; omega))).trans (by first | (simp; done) | go_simp)
      have M_6 : w1.cell? ⟨w.heap.size, 6, none⟩ = some (.int .u32 v.g) := (hc1.cell (p := ⟨w.heap.size, 6, none⟩) (by first | (simp; done) | (simp; omega))).trans (by first | (simp; done) | go_simp)
      have M_7 : w1.cell? ⟨w.heap.size, 7, none⟩ = some (.int .u32 v.z) := (hc1.cell (p := ⟨w.heap.size, 7, none⟩) (by first | (simp; done) | (simp; omega))).trans (by first | (simp; done) | go_simp)
      have M_8 : w1.cell? ⟨w.heap.size, 8, none⟩ = some (.slice ra rn rc) := (hc1.cell (p := ⟨w.heap.size, 8, none⟩) (by first | (simp; done) | (simp; omega))).trans (by first | (simp; done) | go_simp)
      have M_9 : w1.cell? ⟨w.heap.size, 9, none⟩ = some (.int .i64 N) := (hc1.cell (p := ⟨w.heap.size, 9, none⟩) (by first | (simp; done) | (simp; omega))).trans (by first | (simp; done) | go_simp)
      have M_f0 : w1.frozen? ⟨w.heap.size, 0, none⟩ = false := (hc1.frozen (p := ⟨w.heap.size, 0, none⟩) (by first | (simp; done) | (simp; omega))).trans (by first | (simp; done) | go_simp)
      have M_f1 : w1.frozen? ⟨w.heap.size, 1, none⟩ = false := (hc1.frozen (p := ⟨w.heap.size, 1, none⟩) (by first | (simp; done) | (simp; omega))).trans (by first | (simp; done) | go_simp)
      have M_f2 : w1.frozen? ⟨w.heap.size, 2, none⟩ = false := (hc1.frozen (p := ⟨w.heap.size, 2, none⟩) (by first | (simp; done) | (simp; omega))).trans (by first | (simp; done) | go_simp)
      have M_f3 : w1.frozen? ⟨w.heap.size, 3, none⟩ = false := (hc1.frozen (p := ⟨w.heap.size, 3, none⟩) (by first | (simp; done) | (simp; omega))).trans (by first | (simp; done) | go_simp)
      have M_f4 : w1.frozen? ⟨w.heap.size, 4, none⟩ = false := (hc1.frozen (p := ⟨w.heap.size, 4, none⟩) (by first | (simp; done) | (simp; omega))).trans (by first | (simp; done) | go_simp)
      have M_f5 : w1.frozen? ⟨w.heap.size, 5, none⟩ = false := (hc1.frozen (p := ⟨w.heap.size, 5, none⟩) (by first | (simp; done) | (simp; omega))).trans (by first | (simp; done) | go_simp)
      have M_f6 : w1.frozen? ⟨w.heap.size, 6, none⟩ = false := (hc1.frozen (p := ⟨w.heap.size, 6, none⟩) (by first | (simp; done) | (simp; omega))).trans (by first | (simp; done) | go_simp)
      have M_f7 : w1.frozen? ⟨w.heap.size, 7, none⟩ = false := (hc1.frozen (p := ⟨w.heap.size, 7, none⟩) (by first | (simp; done) | (simp; omega))).trans (by first | (simp; done) | go_simp)
      have M_f8 : w1.frozen? ⟨w.heap.size, 8, none⟩ = false := (hc1.frozen (p := ⟨w.heap.size, 8, none⟩) (by first | (simp; done) | (simp; omega))).trans (by first | (simp; done) | go_simp)
      have M_f9 : w1.frozen? ⟨w.heap.size, 9, none⟩ = false := (hc1.frozen (p := ⟨w.heap.size, 9, none⟩) (by first | (simp; done) | (simp; omega))).trans (by first | (simp; done) | go_simp)
      have M_l : w.heap.size < w1.heap.size := Nat.lt_of_lt_of_le (by first | (simp; done) | (simp; omega)) hc1.size
      have R_0 : w1.cell? ⟨w.heap.size + 1, 0, none⟩ = some (.int .u32 0) := (hc1.cell (p := ⟨w.heap.size + 1, 0, none⟩) (by first | (simp; done) | (simp; omega))).trans (by first | (simp; done) | go_simp)
      have R_1 : w1.cell? ⟨w.heap.size + 1, 1, none⟩ = some (.int .u32 0) := (hc1.cell (p := ⟨w.heap.size + 1, 1, none⟩) (by first | (simp; done) | (simp; omega))).trans (by first | (simp; done) | go_simp)
      have R_2 : w1.cell? ⟨w.heap.size + 1, 2, none⟩ = some (.int .u32 0) := (hc1.cell (p := ⟨w.heap.size + 1, 2, none⟩) (by first | (simp; done) | (simp; omega))).trans (by first | (simp; done) | go_simp)
      have R_3 : w1.cell? ⟨w.heap.size + 1, 3, none⟩ = some (.int .u32 0) := (hc1.cell (p := ⟨w.heap.size + 1, 3, none⟩) (by first | (simp; done) | (simp; omega))).trans (by first | (simp; done) | go_simp)
      have R_4 : w1.cell? ⟨w.heap.size + 1, 4, none⟩ = some (.int .u32 0) := (hc1.cell (p := ⟨w.heap.size + 1, 4, none⟩) (by first | (simp; done) | (simp; omega))).trans (by first | (simp; done) | go_simp)
      have R_5 : w1.cell? ⟨w.heap.size + 1, 5, none⟩ = some (.int .u32 0) := (hc1.cell (p := ⟨w.heap.size + 1, 5, none⟩) (by first | (simp; done) | (simp; omega))).trans (by first | (simp; done) | go_simp)
      have R_6 : w1.cell? ⟨w.heap.size + 1, 6, none⟩ = some (.int .u32 0) := (hc1.cell (p := ⟨w.heap.size + 1, 6, none⟩) (by first | (simp; done) | (simp; omega))).trans (by first | (simp; done) | go_simp)
      have R_7 : w1.cell? ⟨w.heap.size + 1, 7, none⟩ = some (.int .u32 0) := (hc1.cell (p := ⟨w.heap.size + 1, 7, none⟩) (by first | (simp; done) | (simp; omega))).trans (by first | (simp; done) | go_simp)
      have R_8 : w1.cell? ⟨w.heap.size + 1, 8, none⟩ = some (.slice none 0 0) := (hc1.cell (p := ⟨w.heap.size + 1, 8, none⟩) (by first | (simp; done) | (simp; omega))).trans (by first | (simp; done) | go_simp)
      have R_9 : w1.cell? ⟨w.heap.size + 1, 9, none⟩ = some (.int .i64 0) := (hc1.cell (p := ⟨w.heap.size + 1, 9, none⟩) (by first | (simp; done) | (simp; omega))).trans (by first | (simp; done) | go_simp)
      have R_f0 : w1.frozen? ⟨w.heap.size + 1, 0, none⟩ = false := (hc1.frozen (p := ⟨w.heap.size + 1, 0, none⟩) (by first | (simp; done) | (simp; omega))).trans (by first | (simp; done) | go_simp)
      have R_f1 : w1.frozen? ⟨w.heap.size + 1, 1, none⟩ = false := (hc1.frozen (p := ⟨w.heap.size + 1, 1, none⟩) (by first | (simp; done) | (simp; omega))).trans (by first | (simp; done) | go_simp)
      have R_f2 : w1.frozen? ⟨w.heap.size + 1, 2, none⟩ = false := (hc1.frozen (p := ⟨w.heap.size + 1, 2, none⟩) (by first | (simp; done) | (simp; omega))).trans (by first | (simp; done) | go_simp)
      have R_f3 : w1.frozen? ⟨w.heap.size + 1, 3, none⟩ = false := (hc1.frozen (p := ⟨w.heap.size + 1, 3, none⟩) (by first | (simp; done) | (simp; omega))).trans (by first | (simp; done) | go_simp)
      have R_f4 : w1.frozen? ⟨w.heap.size + 1, 4, none⟩ = false := (hc1.frozen (p := ⟨w.heap.size + 1, 4, none⟩) (by first | (simp; done) | (simp; omega))).trans (by first | (simp; done) | go_simp)
      have R_f5 : w1.frozen? ⟨w.heap.size + 1, 5, none⟩ = false := (hc1.frozen (p := ⟨w.heap.size + 1, 5, none⟩) (by first | (simp; done) | (simp; omega))).trans (by first | (simp; done) | go_simp)
      have R_f6 : w1.frozen? ⟨w.heap.size + 1, 6, none⟩ = false := (hc1.frozen (p := ⟨w.heap.size + 1, 6, none⟩) (by first | (simp; done) | (simp; omega))).trans (by first | (simp; done) | go_simp)
      have R_f7 : w1.frozen? ⟨w.heap.size + 1, 7, none⟩ = false := (hc1.frozen (p := ⟨w.heap.size + 1, 7, none⟩) (by first | (simp; done) | (simp; omega))).trans (by first | (simp; done) | go_simp)
      have R_f8 : w1.frozen? ⟨w.heap.size + 1, 8, none⟩ = false := (hc1.frozen (p := ⟨w.heap.size + 1, 8, none⟩) (by first | (simp; done) | (simp; omega))).trans (by first | (simp; done) | go_simp)
      have R_f9 : w1.frozen? ⟨w.heap.size + 1, 9, none⟩ = false := (hc1.frozen (p := ⟨w.heap.size + 1, 9, none⟩) (by first | (simp; done) | (simp; omega))).trans (by first | (simp; done) | go_simp)
      have R_l : w.heap.size + 1 < w1.heap.size := Nat.lt_of_lt_of_le (by first | (simp; done) | (simp; omega)) hc1.size
      clear hc1 hb0
      rw [H1.out]
      go_wp2_with fail
      refine bodyPost_ret (v := .tuple #[.agg #[.int .u32 0, .int .u32 0, .int .u32 0, .int .u32 0, .int .u32 0, .int .u32 0, .int .u32 0, .int .u32 0, .slice none 0 0, .int .i64 0], .int .i64 4]) (by simp [results, Tryd.results9, go_sem, *]) rfl ⟨?_, ?_⟩
      · rw [HA.out]; exact MillR.zero _ _ _
      · exact (by repeat' (first | with_reducible exact hb1 | with_reducible refine Below.drew ?_ | with_reducible refine below_drewN ?_ _ | with_reducible refine Below.alloc ?_ (by have := hb1.size; first | (simp; done) | (simp; omega) | omega) _ | with_reducible refine Below.setCell ?_ (by first | (simp; done) | (simp; omega) | omega) _))
    · have HA := hid (show addM v.list rs N ys = (mill v.list (rs ++ ys), (rs ++ ys).drop ((rs ++ ys).length / 64 * 64), N + bn, 0) by unfold addM; rw [← hrn, ← hbn, if_neg (by rw [h1]; simp), if_neg h2])
      have h3 : (bn : Int) ≤ 200000 - N := by omega
      have H1 := hid h1
      have HRN := hid hrn
      have HBN := hid hbn
      have HVK := hid hv
      clear h1 h2 hrn hbn hv
      go_enter Tryd.func9, Tryd.ntmps9
      have hb0 := Below.refl w.heap.size w
      go_wp2_with fail
      with_reducible refine (valid_any v ra rn rc N _).mono ?_
      rintro e w1 ⟨rfl, hc1⟩
      have hr1 : CellsAt w1 ra (rs.map (Value.int .u8)) := hr.later (bchain (by repeat' (first | with_reducible exact hb0 | with_reducible refine Below.drew ?_ | with_reducible refine below_drewN ?_ _ | with_reducible refine Below.alloc ?_ (by have := hb0.size; first | (simp; done) | (simp; omega) | omega) _ | with_reducible refine Below.setCell ?_ (by first | (simp; done) | (simp; omega) | omega) _)) hc1)
      have hy1 : CellsAt w1 ba (ys.map (Value.int .u8)) := hy.later (bchain (by repeat' (first | with_reducible exact hb0 | with_reducible refine Below.drew ?_ | with_reducible refine below_drewN ?_ _ | with_reducible refine Below.alloc ?_ (by have := hb0.size; first | (simp; done) | (simp; omega) | omega) _ | with_reducible refine Below.setCell ?_ (by first | (simp; done) | (simp; omega) | omega) _)) hc1)
      have hK1 : CellsAt w1 (some ⟨0, 0, none⟩) (kcs.map (Value.int .u32)) := hK.later (bchain (by repeat' (first | with_reducible exact hb0 | with_reducible refine Below.drew ?_ | with_reducible refine below_drewN ?_ _ | with_reducible refine Below.alloc ?_ (by have := hb0.size; first | (simp; done) | (simp; omega) | omega) _ | with_reducible refine Below.setCell ?_ (by first | (simp; done) | (simp; omega) | omega) _)) hc1)
      have hw1 : 0 < w1.heap.size := Nat.lt_of_lt_of_le hw0 (bchain (by repeat' (first | with_reducible exact hb0 | with_reducible refine Below.drew ?_ | with_reducible refine below_drewN ?_ _ | with_reducible refine Below.alloc ?_ (by have := hb0.size; first | (simp; done) | (simp; omega) | omega) _ | with_reducible refine Below.setCell ?_ (by first | (simp; done) | (simp; omega) | omega) _)) hc1).size
      have hb1 : Below w.heap.size w w1 := bchain (by repeat' (first | with_reducible exact hb0 | with_reducible refine Below.drew ?_ | with_reducible refine below_drewN ?_ _ | with_reducible refine Below.alloc ?_ (by have := hb0.size; first | (simp; done) | (simp; omega) | omega) _ | with_reducible refine Below.setCell ?_ (by first | (simp; done) | (simp; omega) | omega) _)) hc1
      have M_0 : w1.cell? ⟨w.heap.size, 0, none⟩ = some (.int .u32 v.a) := (hc1.cell (p := ⟨w.heap.size, 0, none⟩) (by first | (simp; done) | (simp; omega))).trans (by first | (simp; done) | go_simp)
      have M_1 : w1.cell? ⟨w.heap.size, 1, none⟩ = some (.int .u32 v.b) := (hc1.cell (p := ⟨w.heap.size, 1, none⟩) (by first | (simp; done) | (simp; omega))).trans (by first | (simp; done) | go_simp)
      have M_2 : w1.cell? ⟨w.heap.size, 2, none⟩ = some (.int .u32 v.c) := (hc1.cell (p := ⟨w.heap.size, 2, none⟩) (by first | (simp; done) | (simp; omega))).trans (by first | (simp; done) | go_simp)
      have M_3 : w1.cell? ⟨w.heap.size, 3, none⟩ = some (.int .u32 v.d) := (hc1.cell (p := ⟨w.heap.size, 3, none⟩) (by first | (simp; done) | (simp; omega))).trans (by first | (simp; done) | go_simp)
      have M_4 : w1.cell? ⟨w.heap.size, 4, none⟩ = some (.int .u32 v.e) := (hc1.cell (p := ⟨w.heap.size, 4, none⟩) (by first | (simp; done) | (simp; omega))).trans (by first | (simp; done) | go_simp)
      have M_5 : w1.cell? ⟨w.heap.size, 5, none⟩ = some (.int .u32 v.f) := (hc1.cell (p := ⟨w.heap.size, 5, none⟩) (by first | (simp; done) | (simp; omega))).trans (by first | (simp; done) | go_simp)
      have M_6 : w1.cell? ⟨w.heap.size, 6, none⟩ = some (.int .u32 v.g) := (hc1.cell (p := ⟨w.heap.size, 6, none⟩) (by first | (simp; done) | (simp; omega))).trans (by first | (simp; done) | go_simp)
      have M_7 : w1.cell? ⟨w.heap.size, 7, none⟩ = some (.int .u32 v.z) := (hc1.cell (p := ⟨w.heap.size, 7, none⟩) (by first | (simp; done) | (simp; omega))).trans (by first | (simp; done) | go_simp)
      have M_8 : w1.cell? ⟨w.heap.size, 8, none⟩ = some (.slice ra rn rc) := (hc1.cell (p := ⟨w.heap.size, 8, none⟩) (by first | (simp; done) | (simp; omega))).trans (by first | (simp; done) | go_simp)
      have M_9 : w1.cell? ⟨w.heap.size, 9, none⟩ = some (.int .i64 N) := (hc1.cell (p := ⟨w.heap.size, 9, none⟩) (by first | (simp; done) | (simp; omega))).trans (by first | (simp; done) | go_simp)
      have M_f0 : w1.frozen? ⟨w.heap.size, 0, none⟩ = false := (hc1.frozen (p := ⟨w.heap.size, 0, none⟩) (by first | (simp; done) | (simp; omega))).trans (by first | (simp; done) | go_simp)
      have M_f1 : w1.frozen? ⟨w.heap.size, 1, none⟩ = false := (hc1.frozen (p := ⟨w.heap.size, 1, none⟩) (by first | (simp; done) | (simp; omega))).trans (by first | (simp; done) | go_simp)
      have M_f2 : w1.frozen? ⟨w.heap.size, 2, none⟩ = false := (hc1.frozen (p := ⟨w.heap.size, 2, none⟩) (by first | (simp; done) | (simp; omega))).trans (by first | (simp; done) | go_simp)
      have M_f3 : w1.frozen? ⟨w.heap.size, 3, none⟩ = false := (hc1.frozen (p := ⟨w.heap.size, 3, none⟩) (by first | (simp; done) | (simp; omega))).trans (by first | (simp; done) | go_simp)
      have M_f4 : w1.frozen? ⟨w.heap.size, 4, none⟩ = false := (hc1.frozen (p := ⟨w.heap.size, 4, none⟩) (by first | (simp; done) | (simp; omega))).trans (by first | (simp; done) | go_simp)
      have M_f5 : w1.frozen? ⟨w.heap.size, 5, none⟩ = false := (hc1.frozen (p := ⟨w.heap.size, 5, none⟩) (by first | (simp; done) | (simp; omega))).trans (by first | (simp; done) | go_simp)
      have M_f6 : w1.frozen? ⟨w.heap.size, 6, none⟩ = false := (hc1.frozen (p := ⟨w.heap.size, 6, none⟩) (by first | (simp; done) | (simp; omega))).trans (by first | (simp; done) | go_simp)
      have M_f7 : w1.frozen? ⟨w.heap.size, 7, none⟩ = false := (hc1.frozen (p := ⟨w.heap.size, 7, none⟩) (by first | (simp; done) | (simp; omega))).trans (by first | (simp; done) | go_simp)
      have M_f8 : w1.frozen? ⟨w.heap.size, 8, none⟩ = false := (hc1.frozen (p := ⟨w.heap.size, 8, none⟩) (by first | (simp; done) | (simp; omega))).trans (by first | (simp; done) | go_simp)
      have M_f9 : w1.frozen? ⟨w.heap.size, 9, none⟩ = false := (hc1.frozen (p := ⟨w.heap.size, 9, none⟩) (by first | (simp; done) | (simp; omega))).trans (by first | (simp; done) | go_simp)
      have M_l : w.heap.size < w1.heap.size := Nat.lt_of_lt_of_le (by first | (simp; done) | (simp; omega)) hc1.size
      have R_0 : w1.cell? ⟨w.heap.size + 1, 0, none⟩ = some (.int .u32 0) := (hc1.cell (p := ⟨w.heap.size + 1, 0, none⟩) (by first | (simp; done) | (simp; omega))).trans (by first | (simp; done) | go_simp)
      have R_1 : w1.cell? ⟨w.heap.size + 1, 1, none⟩ = some (.int .u32 0) := (hc1.cell (p := ⟨w.heap.size + 1, 1, none⟩) (by first | (simp; done) | (simp; omega))).trans (by first | (simp; done) | go_simp)
      have R_2 : w1.cell? ⟨w.heap.size + 1, 2, none⟩ = some (.int .u32 0) := (hc1.cell (p := ⟨w.heap.size + 1, 2, none⟩) (by first | (simp; done) | (simp; omega))).trans (by first | (simp; done) | go_simp)
      have R_3 : w1.cell? ⟨w.heap.size + 1, 3, none⟩ = some (.int .u32 0) := (hc1.cell (p := ⟨w.heap.size + 1, 3, none⟩) (by first | (simp; done) | (simp; omega))).trans (by first | (simp; done) | go_simp)
      have R_4 : w1.cell? ⟨w.heap.size + 1, 4, none⟩ = some (.int .u32 0) := (hc1.cell (p := ⟨w.heap.size + 1, 4, none⟩) (by first | (simp; done) | (simp; omega))).trans (by first | (simp; done) | go_simp)
      have R_5 : w1.cell? ⟨w.heap.size + 1, 5, none⟩ = some (.int .u32 0) := (hc1.cell (p := ⟨w.heap.size + 1, 5, none⟩) (by first | (simp; done) | (simp; omega))).trans (by first | (simp; done) | go_simp)
      have R_6 : w1.cell? ⟨w.heap.size + 1, 6, none⟩ = some (.int .u32 0) := (hc1.cell (p := ⟨w.heap.size + 1, 6, none⟩) (by first | (simp; done) | (simp; omega))).trans (by first | (simp; done) | go_simp)
      have R_7 : w1.cell? ⟨w.heap.size + 1, 7, none⟩ = some (.int .u32 0) := (hc1.cell (p := ⟨w.heap.size + 1, 7, none⟩) (by first | (simp; done) | (simp; omega))).trans (by first | (simp; done) | go_simp)
      have R_8 : w1.cell? ⟨w.heap.size + 1, 8, none⟩ = some (.slice none 0 0) := (hc1.cell (p := ⟨w.heap.size + 1, 8, none⟩) (by first | (simp; done) | (simp; omega))).trans (by first | (simp; done) | go_simp)
      have R_9 : w1.cell? ⟨w.heap.size + 1, 9, none⟩ = some (.int .i64 0) := (hc1.cell (p := ⟨w.heap.size + 1, 9, none⟩) (by first | (simp; done) | (simp; omega))).trans (by first | (simp; done) | go_simp)
      have R_f0 : w1.frozen? ⟨w.heap.size + 1, 0, none⟩ = false := (hc1.frozen (p := ⟨w.heap.size + 1, 0, none⟩) (by first | (simp; done) | (simp; omega))).trans (by first | (simp; done) | go_simp)
      have R_f1 : w1.frozen? ⟨w.heap.size + 1, 1, none⟩ = false := (hc1.frozen (p := ⟨w.heap.size + 1, 1, none⟩) (by first | (simp; done) | (simp; omega))).trans (by first | (simp; done) | go_simp)
      have R_f2 : w1.frozen? ⟨w.heap.size + 1, 2, none⟩ = false := (hc1.frozen (p := ⟨w.heap.size + 1, 2, none⟩) (by first | (simp; done) | (simp; omega))).trans (by first | (simp; done) | go_simp)
      have R_f3 : w1.frozen? ⟨w.heap.size + 1, 3, none⟩ = false := (hc1.frozen (p := ⟨w.heap.size + 1, 3, none⟩) (by first | (simp; done) | (simp; omega))).trans (by first | (simp; done) | go_simp)
      have R_f4 : w1.frozen? ⟨w.heap.size + 1, 4, none⟩ = false := (hc1.frozen (p := ⟨w.heap.size + 1, 4, none⟩) (by first | (simp; done) | (simp; omega))).trans (by first | (simp; done) | go_simp)
      have R_f5 : w1.frozen? ⟨w.heap.size + 1, 5, none⟩ = false := (hc1.frozen (p := ⟨w.heap.size + 1, 5, none⟩) (by first | (simp; done) | (simp; omega))).trans (by first | (simp; done) | go_simp)
      have R_f6 : w1.frozen? ⟨w.heap.size + 1, 6, none⟩ = false := (hc1.frozen (p := ⟨w.heap.size + 1, 6, none⟩) (by first | (simp; done) | (simp; omega))).trans (by first | (simp; done) | go_simp)
      have R_f7 : w1.frozen? ⟨w.heap.size + 1, 7, none⟩ = false := (hc1.frozen (p := ⟨w.heap.size + 1, 7, none⟩) (by first | (simp; done) | (simp; omega))).trans (by first | (simp; done) | go_simp)
      have R_f8 : w1.frozen? ⟨w.heap.size + 1, 8, none⟩ = false := (hc1.frozen (p := ⟨w.heap.size + 1, 8, none⟩) (by first | (simp; done) | (simp; omega))).trans (by first | (simp; done) | go_simp)
      have R_f9 : w1.frozen? ⟨w.heap.size + 1, 9, none⟩ = false := (hc1.frozen (p := ⟨w.heap.size + 1, 9, none⟩) (by first | (simp; done) | (simp; omega))).trans (by first | (simp; done) | go_simp)
      have R_l : w.heap.size + 1 < w1.heap.size := Nat.lt_of_lt_of_le (by first | (simp; done) | (simp; omega)) hc1.size
      have zw1 := hb1.size
      have zR1 := R_l
      clear hc1 hr hy hK
      rw [H1.out]
      go_wp2_with fail
      with_reducible refine (feed_any v rs ys N ra ba rn rc bn bc _ HVK.out HRN.out HBN.out hr1 hy1 hr8 hy8 hK1 hw1 hb hN0 (by omega)).mono ?_
      rintro e w2 ⟨u, a2, m2, c2, rfl, hu, hm2, o2, hc2⟩
      have hb2 : Below w.heap.size w w2 := bchain (by repeat' (first | with_reducible exact hb1 | with_reducible refine Below.drew ?_ | with_reducible refine below_drewN ?_ _ | with_reducible refine Below.alloc ?_ (by have := hb1.size; first | (simp; done) | (simp; omega) | omega) _ | with_reducible refine Below.setCell ?_ (by first | (simp; done) | (simp; omega) | omega) _)) hc2
      have hst2 : Below w1.heap.size w1 w2 := bchain (by repeat' (first | with_reducible exact Below.refl _ _ | with_reducible refine Below.drew ?_ | with_reducible refine below_drewN ?_ _ | with_reducible refine Below.alloc ?_ (by first | (simp; done) | (simp; omega) | omega) _ | with_reducible refine Below.setCell ?_ (by first | (simp; done) | (simp; omega) | omega) _)) hc2
      replace M_0 := cell_later hst2 M_0
      replace M_1 := cell_later hst2 M_1
      replace M_2 := cell_later hst2 M_2
      replace M_3 := cell_later hst2 M_3
      replace M_4 := cell_later hst2 M_4
      replace M_5 := cell_later hst2 M_5
      replace M_6 := cell_later hst2 M_6
      replace M_7 := cell_later hst2 M_7
      replace M_8 := cell_later hst2 M_8
      replace M_9 := cell_later hst2 M_9
      replace M_f0 := frozen_later hst2 M_l M_f0
      replace M_f1 := frozen_later hst2 M_l M_f1
      replace M_f2 := frozen_later hst2 M_l M_f2
      replace M_f3 := frozen_later hst2 M_l M_f3
      replace M_f4 := frozen_later hst2 M_l M_f4
      replace M_f5 := frozen_later hst2 M_l M_f5
      replace M_f6 := frozen_later hst2 M_l M_f6
      replace M_f7 := frozen_later hst2 M_l M_f7
      replace M_f8 := frozen_later hst2 M_l M_f8
      replace M_f9 := frozen_later hst2 M_l M_f9
      replace M_l := Nat.lt_of_lt_of_le M_l hst2.size
      replace R_0 := cell_later hst2 R_0
      replace R_1 := cell_later hst2 R_1
      replace R_2 := cell_later hst2 R_2
      replace R_3 := cell_later hst2 R_3
      replace R_4 := cell_later hst2 R_4
      replace R_5 := cell_later hst2 R_5
      replace R_6 := cell_later hst2 R_6
      replace R_7 := cell_later hst2 R_7
      replace R_8 := cell_later hst2 R_8
      replace R_9 := cell_later hst2 R_9
      replace R_f0 := frozen_later hst2 R_l R_f0
      replace R_f1 := frozen_later hst2 R_l R_f1
      replace R_f2 := frozen_later hst2 R_l R_f2
      replace R_f3 := frozen_later hst2 R_l R_f3
      replace R_f4 := frozen_later hst2 R_l R_f4
      replace R_f5 := frozen_later hst2 R_l R_f5
      replace R_f6 := frozen_later hst2 R_l R_f6
      replace R_f7 := frozen_later hst2 R_l R_f7
      replace R_f8 := frozen_later hst2 R_l R_f8
      replace R_f9 := frozen_later hst2 R_l R_f9
      replace R_l := Nat.lt_of_lt_of_le R_l hst2.size
      clear hst2
      clear hc2 hb1
      have Hu := hid hu
      have Hm2 := hid hm2
      clear hu hm2
      go_wp2_with fail
      refine bodyPost_ret (v := .tuple #[.agg #[.int .u32 u.a, .int .u32 u.b, .int .u32 u.c, .int .u32 u.d, .int .u32 u.e, .int .u32 u.f, .int .u32 u.g, .int .u32 u.z, .slice a2 m2 c2, .int .i64 (N + (bn : Int))], .int .i64 0]) (by simp [results, Tryd.results9, go_sem, *]) rfl ⟨?_, ?_⟩
      · rw [HA.out]
        refine ⟨u, a2, m2, c2, rfl, Hu.out, by rw [Hm2.out, List.length_drop]; omega, ?_, ?_⟩
        · have p2 : ∀ ad, a2 = some ad → ad.block ≠ w.heap.size + 1 := fun ad e => by have := (o2.addr ad e).1; omega
          repeat' (first | with_reducible exact o2.cellsAt | (refine CellsAt.setFarG ?_ p2 _))
        · intro _ ad e; have := (o2.addr ad e).1; omega
      · exact (by repeat' (first | with_reducible exact hb2 | with_reducible refine Below.drew ?_ | with_reducible refine below_drewN ?_ _ | with_reducible refine Below.alloc ?_ (by have := hb2.size; first | (simp; done) | (simp; omega) | omega) _ | with_reducible refine Below.setCell ?_ (by first | (simp; done) | (simp; omega) | omega) _))
  · have h1' : vdB N rn = false := by simpa using h1
    have HA := hid (show addM v.list rs N ys = (List.replicate 8 0, [], 0, 8) by unfold addM; rw [← hrn, if_pos h1'])
    have H1 := hid h1'
    clear hrn hbn h1 h1' hr hy hb
    go_enter Tryd.func9, Tryd.ntmps9
    have hb0 := Below.refl w.heap.size w
    go_wp2_with fail
    with_reducible refine (valid_any v ra rn rc N _).mono ?_
    rintro e w1 ⟨rfl, hc1⟩
    have hb1 : Below w.heap.size w w1 := bchain (by repeat' (first | with_reducible exact hb0 | with_reducible refine Below.drew ?_ | with_reducible refine below_drewN ?_ _ | with_reducible refine Below.alloc ?_ (by have := hb0.size; first | (simp; done) | (simp; omega) | omega) _ | with_reducible refine Below.setCell ?_ (by first | (simp; done) | (simp; omega) | omega) _)) hc1
    have M_0 : w1.cell? ⟨w.heap.size, 0, none⟩ = some (.int .u32 v.a) := (hc1.cell (p := ⟨w.heap.size, 0, none⟩) (by first | (simp; done) | (simp; omega))).trans (by first | (simp; done) | go_simp)
    have M_1 : w1.cell? ⟨w.heap.size, 1, none⟩ = some (.int .u32 v.b) := (hc1.cell (p := ⟨w.heap.size, 1, none⟩) (by first | (simp; done) | (simp; omega))).trans (by first | (simp; done) | go_simp)
    have M_2 : w1.cell? ⟨w.heap.size, 2, none⟩ = some (.int .u32 v.c) := (hc1.cell (p := ⟨w.heap.size, 2, none⟩) (by first | (simp; done) | (simp; omega))).trans (by first | (simp; done) | go_simp)
    have M_3 : w1.cell? ⟨w.heap.size, 3, none⟩ = some (.int .u32 v.d) := (hc1.cell (p := ⟨w.heap.size, 3, none⟩) (by first | (simp; done) | (simp; omega))).trans (by first | (simp; done) | go_simp)
    have M_4 : w1.cell? ⟨w.heap.size, 4, none⟩ = some (.int .u32 v.e) := (hc1.cell (p := ⟨w.heap.size, 4, none⟩) (by first | (simp; done) | (simp; omega))).trans (by first | (simp; done) | go_simp)
    have M_5 : w1.cell? ⟨w.heap.size, 5, none⟩ = some (.int .u32 v.f) := (hc1.cell (p := ⟨w.heap.size, 5, none⟩) (by first | (simp; done) | (simp; omega))).trans (by first | (simp; done) | go_simp)
    have M_6 : w1.cell? ⟨w.heap.size, 6, none⟩ = some (.int .u32 v.g) := (hc1.cell (p := ⟨w.heap.size, 6, none⟩) (by first | (simp; done) | (simp; omega))).trans (by first | (simp; done) | go_simp)
    have M_7 : w1.cell? ⟨w.heap.size, 7, none⟩ = some (.int .u32 v.z) := (hc1.cell (p := ⟨w.heap.size, 7, none⟩) (by first | (simp; done) | (simp; omega))).trans (by first | (simp; done) | go_simp)
    have M_8 : w1.cell? ⟨w.heap.size, 8, none⟩ = some (.slice ra rn rc) := (hc1.cell (p := ⟨w.heap.size, 8, none⟩) (by first | (simp; done) | (simp; omega))).trans (by first | (simp; done) | go_simp)
    have M_9 : w1.cell? ⟨w.heap.size, 9, none⟩ = some (.int .i64 N) := (hc1.cell (p := ⟨w.heap.size, 9, none⟩) (by first | (simp; done) | (simp; omega))).trans (by first | (simp; done) | go_simp)
    have M_f0 : w1.frozen? ⟨w.heap.size, 0, none⟩ = false := (hc1.frozen (p := ⟨w.heap.size, 0, none⟩) (by first | (simp; done) | (simp; omega))).trans (by first | (simp; done) | go_simp)
    have M_f1 : w1.frozen? ⟨w.heap.size, 1, none⟩ = false := (hc1.frozen (p := ⟨w.heap.size, 1, none⟩) (by first | (simp; done) | (simp; omega))).trans (by first | (simp; done) | go_simp)
    have M_f2 : w1.frozen? ⟨w.heap.size, 2, none⟩ = false := (hc1.frozen (p := ⟨w.heap.size, 2, none⟩) (by first | (simp; done) | (simp; omega))).trans (by first | (simp; done) | go_simp)
    have M_f3 : w1.frozen? ⟨w.heap.size, 3, none⟩ = false := (hc1.frozen (p := ⟨w.heap.size, 3, none⟩) (by first | (simp; done) | (simp; omega))).trans (by first | (simp; done) | go_simp)
    have M_f4 : w1.frozen? ⟨w.heap.size, 4, none⟩ = false := (hc1.frozen (p := ⟨w.heap.size, 4, none⟩) (by first | (simp; done) | (simp; omega))).trans (by first | (simp; done) | go_simp)
    have M_f5 : w1.frozen? ⟨w.heap.size, 5, none⟩ = false := (hc1.frozen (p := ⟨w.heap.size, 5, none⟩) (by first | (simp; done) | (simp; omega))).trans (by first | (simp; done) | go_simp)
    have M_f6 : w1.frozen? ⟨w.heap.size, 6, none⟩ = false := (hc1.frozen (p := ⟨w.heap.size, 6, none⟩) (by first | (simp; done) | (simp; omega))).trans (by first | (simp; done) | go_simp)
    have M_f7 : w1.frozen? ⟨w.heap.size, 7, none⟩ = false := (hc1.frozen (p := ⟨w.heap.size, 7, none⟩) (by first | (simp; done) | (simp; omega))).trans (by first | (simp; done) | go_simp)
    have M_f8 : w1.frozen? ⟨w.heap.size, 8, none⟩ = false := (hc1.frozen (p := ⟨w.heap.size, 8, none⟩) (by first | (simp; done) | (simp; omega))).trans (by first | (simp; done) | go_simp)
    have M_f9 : w1.frozen? ⟨w.heap.size, 9, none⟩ = false := (hc1.frozen (p := ⟨w.heap.size, 9, none⟩) (by first | (simp; done) | (simp; omega))).trans (by first | (simp; done) | go_simp)
    have M_l : w.heap.size < w1.heap.size := Nat.lt_of_lt_of_le (by first | (simp; done) | (simp; omega)) hc1.size
    have R_0 : w1.cell? ⟨w.heap.size + 1, 0, none⟩ = some (.int .u32 0) := (hc1.cell (p := ⟨w.heap.size + 1, 0, none⟩) (by first | (simp; done) | (simp; omega))).trans (by first | (simp; done) | go_simp)
    have R_1 : w1.cell? ⟨w.heap.size + 1, 1, none⟩ = some (.int .u32 0) := (hc1.cell (p := ⟨w.heap.size + 1, 1, none⟩) (by first | (simp; done) | (simp; omega))).trans (by first | (simp; done) | go_simp)
    have R_2 : w1.cell? ⟨w.heap.size + 1, 2, none⟩ = some (.int .u32 0) := (hc1.cell (p := ⟨w.heap.size + 1, 2, none⟩) (by first | (simp; done) | (simp; omega))).trans (by first | (simp; done) | go_simp)
    have R_3 : w1.cell? ⟨w.heap.size + 1, 3, none⟩ = some (.int .u32 0) := (hc1.cell (p := ⟨w.heap.size + 1, 3, none⟩) (by first | (simp; done) | (simp; omega))).trans (by first | (simp; done) | go_simp)
    have R_4 : w1.cell? ⟨w.heap.size + 1, 4, none⟩ = some (.int .u32 0) := (hc1.cell (p := ⟨w.heap.size + 1, 4, none⟩) (by first | (simp; done) | (simp; omega))).trans (by first | (simp; done) | go_simp)
    have R_5 : w1.cell? ⟨w.heap.size + 1, 5, none⟩ = some (.int .u32 0) := (hc1.cell (p := ⟨w.heap.size + 1, 5, none⟩) (by first | (simp; done) | (simp; omega))).trans (by first | (simp; done) | go_simp)
    have R_6 : w1.cell? ⟨w.heap.size + 1, 6, none⟩ = some (.int .u32 0) := (hc1.cell (p := ⟨w.heap.size + 1, 6, none⟩) (by first | (simp; done) | (simp; omega))).trans (by first | (simp; done) | go_simp)
    have R_7 : w1.cell? ⟨w.heap.size + 1, 7, none⟩ = some (.int .u32 0) := (hc1.cell (p := ⟨w.heap.size + 1, 7, none⟩) (by first | (simp; done) | (simp; omega))).trans (by first | (simp; done) | go_simp)
    have R_8 : w1.cell? ⟨w.heap.size + 1, 8, none⟩ = some (.slice none 0 0) := (hc1.cell (p := ⟨w.heap.size + 1, 8, none⟩) (by first | (simp; done) | (simp; omega))).trans (by first | (simp; done) | go_simp)
    have R_9 : w1.cell? ⟨w.heap.size + 1, 9, none⟩ = some (.int .i64 0) := (hc1.cell (p := ⟨w.heap.size + 1, 9, none⟩) (by first | (simp; done) | (simp; omega))).trans (by first | (simp; done) | go_simp)
    have R_f0 : w1.frozen? ⟨w.heap.size + 1, 0, none⟩ = false := (hc1.frozen (p := ⟨w.heap.size + 1, 0, none⟩) (by first | (simp; done) | (simp; omega))).trans (by first | (simp; done) | go_simp)
    have R_f1 : w1.frozen? ⟨w.heap.size + 1, 1, none⟩ = false := (hc1.frozen (p := ⟨w.heap.size + 1, 1, none⟩) (by first | (simp; done) | (simp; omega))).trans (by first | (simp; done) | go_simp)
    have R_f2 : w1.frozen? ⟨w.heap.size + 1, 2, none⟩ = false := (hc1.frozen (p := ⟨w.heap.size + 1, 2, none⟩) (by first | (simp; done) | (simp; omega))).trans (by first | (simp; done) | go_simp)
    have R_f3 : w1.frozen? ⟨w.heap.size + 1, 3, none⟩ = false := (hc1.frozen (p := ⟨w.heap.size + 1, 3, none⟩) (by first | (simp; done) | (simp; omega))).trans (by first | (simp; done) | go_simp)
    have R_f4 : w1.frozen? ⟨w.heap.size + 1, 4, none⟩ = false := (hc1.frozen (p := ⟨w.heap.size + 1, 4, none⟩) (by first | (simp; done) | (simp; omega))).trans (by first | (simp; done) | go_simp)
    have R_f5 : w1.frozen? ⟨w.heap.size + 1, 5, none⟩ = false := (hc1.frozen (p := ⟨w.heap.size + 1, 5, none⟩) (by first | (simp; done) | (simp; omega))).trans (by first | (simp; done) | go_simp)
    have R_f6 : w1.frozen? ⟨w.heap.size + 1, 6, none⟩ = false := (hc1.frozen (p := ⟨w.heap.size + 1, 6, none⟩) (by first | (simp; done) | (simp; omega))).trans (by first | (simp; done) | go_simp)
    have R_f7 : w1.frozen? ⟨w.heap.size + 1, 7, none⟩ = false := (hc1.frozen (p := ⟨w.heap.size + 1, 7, none⟩) (by first | (simp; done) | (simp; omega))).trans (by first | (simp; done) | go_simp)
    have R_f8 : w1.frozen? ⟨w.heap.size + 1, 8, none⟩ = false := (hc1.frozen (p := ⟨w.heap.size + 1, 8, none⟩) (by first | (simp; done) | (simp; omega))).trans (by first | (simp; done) | go_simp)
    have R_f9 : w1.frozen? ⟨w.heap.size + 1, 9, none⟩ = false := (hc1.frozen (p := ⟨w.heap.size + 1, 9, none⟩) (by first | (simp; done) | (simp; omega))).trans (by first | (simp; done) | go_simp)
    have R_l : w.heap.size + 1 < w1.heap.size := Nat.lt_of_lt_of_le (by first | (simp; done) | (simp; omega)) hc1.size
    clear hc1 hb0
    rw [H1.out]
    go_wp2_with fail
    refine bodyPost_ret (v := .tuple #[.agg #[.int .u32 0, .int .u32 0, .int .u32 0, .int .u32 0, .int .u32 0, .int .u32 0, .int .u32 0, .int .u32 0, .slice none 0 0, .int .i64 0], .int .i64 8]) (by simp [results, Tryd.results9, go_sem, *]) rfl ⟨?_, ?_⟩
    · rw [HA.out]; exact MillR.zero _ _ _
    · exact (by repeat' (first | with_reducible exact hb1 | with_reducible refine Below.drew ?_ | with_reducible refine below_drewN ?_ _ | with_reducible refine Below.alloc ?_ (by have := hb1.size; first | (simp; done) | (simp; omega) | omega) _ | with_reducible refine Below.setCell ?_ (by first | (simp; done) | (simp; omega) | omega) _))

theorem V8.inj {u v : V8} (h : u.list = v.list) : u = v := by
  obtain ⟨a, b, c, d, e, f, g, z⟩ := u
  obtain ⟨a', b', c', d', e', f', g', z'⟩ := v
  simp only [V8.list, List.cons.injEq, and_true] at h
  obtain ⟨h1, h2, h3, h4, h5, h6, h7, h8⟩ := h
  subst h1 h2 h3 h4 h5 h6 h7 h8
  rfl
theorem blocks_v (u v : V8) (bs : List Int) (a : Option Addr) (n c : Nat) (w : World) (hv : v.ok) (hn : n = bs.length) (hnc : n ≤ c) (hb63 : n ≤ 140737488355328) (hc : CellsAt w a (bs.map (Value.int .u8))) (hb : Bytes8 bs) (hu : u.list = mill v.list bs) :
    Calls Tryd.prog 30 #[.agg #[.int .u32 v.a, .int .u32 v.b, .int .u32 v.c, .int .u32 v.d, .int .u32 v.e, .int .u32 v.f, .int .u32 v.g, .int .u32 v.z], .slice a n c] w fun e w' =>
      e = .returned (.agg #[.int .u32 u.a, .int .u32 u.b, .int .u32 u.c, .int .u32 u.d, .int .u32 u.e, .int .u32 u.f, .int .u32 u.g, .int .u32 u.z]) ∧ Below w.heap.size w w' :=
  (blocks_any v bs a n c w hv hn hnc hb63 hc hb).mono fun e w' ⟨u', he, hu', hb⟩ => by
    rw [V8.inj (hu'.trans hu.symm)] at he
    exact ⟨he, hb⟩

set_option maxRecDepth 100000 in
set_option maxHeartbeats 4000000 in
theorem radd_any (v : V8) (rs ys : List Int) (N : Int) (ra ba : Option Addr) (rn rc bn bc : Nat) (w : World) (hv : v.ok) (hrn : rn = rs.length) (hbn : bn = ys.length) (hr : CellsAt w ra (rs.map (Value.int .u8))) (hy : CellsAt w ba (ys.map (Value.int .u8)))
    (hr8 : Bytes8 rs) (hy8 : Bytes8 ys) (hK : CellsAt w (some ⟨0, 0, none⟩) (kcs.map (Value.int .u32))) (hw0 : 0 < w.heap.size) (hb : rn + bn ≤ 140737488355327) :
    Calls Tryd.prog 10 #[.agg #[.int .u32 v.a, .int .u32 v.b, .int .u32 v.c, .int .u32 v.d, .int .u32 v.e, .int .u32 v.f, .int .u32 v.g, .int .u32 v.z, .slice ra rn rc, .int .i64 N], .slice ba bn bc] w fun e w' =>
      MillR w.heap.size w' e (addM v.list rs N ys) ∧ Below w.heap.size w w' := by
  by_cases h1 : vdB N rn = true
  · have hN : 0 ≤ N ∧ N ≤ 200000 := by unfold vdB at h1; simp at h1; omega
    obtain ⟨hN0, hN1⟩ := hN
    by_cases h2 : (200000 : Int) - N < (bn : Int)
    · have HA := hid (show addM v.list rs N ys = (List.replicate 8 0, [], 0, 4) by unfold addM; rw [← hrn, ← hbn, if_neg (by rw [h1]; simp), if_pos h2])
      have H1 := hid h1
      clear hrn hbn h1 hr hy hb
      go_enter Tryd.func10, Tryd.ntmps10
      have hb0 := Below.refl w.heap.size w
      go_wp2_with fail
      with_reducible refine (rvalid_any v ra rn rc N _).mono ?_
      rintro e w1 ⟨rfl, hc1⟩
      have hb1 : Below w.heap.size w w1 := bchain (by repeat' (first | with_reducible exact hb0 | with_reducible refine Below.drew ?_ | with_reducible refine below_drewN ?_ _ | with_reducible refine Below.alloc ?_ (by have := hb0.size; first | (simp; done) | (simp; omega) | omega) _ | with_reducible refine Below.setCell ?_ (by first | (simp; done) | (simp; omega) | omega) _)) hc1
      have M_0 : w1.cell? ⟨w.heap.size, 0, none⟩ = some (.int .u32 v.a) := (hc1.cell (p := ⟨w.heap.size, 0, none⟩) (by first | (simp; done) | (simp; omega))).trans (by first | (simp; done) | go_simp)
      have M_1 : w1.cell? ⟨w.heap.size, 1, none⟩ = some (.int .u32 v.b) := (hc1.cell (p := ⟨w.heap.size, 1, none⟩) (by first | (simp; done) | (simp; omega))).trans (by first | (simp; done) | go_simp)
      have M_2 : w1.cell? ⟨w.heap.size, 2, none⟩ = some (.int .u32 v.c) := (hc1.cell (p := ⟨w.heap.size, 2, none⟩) (by first | (simp; done) | (simp; omega))).trans (by first | (simp; done) | go_simp)
      have M_3 : w1.cell? ⟨w.heap.size, 3, none⟩ = some (.int .u32 v.d) := (hc1.cell (p := ⟨w.heap.size, 3, none⟩) (by first | (simp; done) | (simp; omega))).trans (by first | (simp; done) | go_simp)
      have M_4 : w1.cell? ⟨w.heap.size, 4, none⟩ = some (.int .u32 v.e) := (hc1.cell (p := ⟨w.heap.size, 4, none⟩) (by first | (simp; done) | (simp; omega))).trans (by first | (simp; done) | go_simp)
      have M_5 : w1.cell? ⟨w.heap.size, 5, none⟩ = some (.int .u32 v.f) := (hc1.cell (p := ⟨w.heap.size, 5, none⟩) (by first | (simp; done) | (simp; omega))).trans (by first | (simp; done) | go_simp)
      have M_6 : w1.cell? ⟨w.heap.size, 6, none⟩ = some (.int .u32 v.g) := (hc1.cell (p := ⟨w.heap.size, 6, none⟩) (by first | (simp; done) | (simp; omega))).trans (by first | (simp; done) | go_simp)
      have M_7 : w1.cell? ⟨w.heap.size, 7, none⟩ = some (.int .u32 v.z) := (hc1.cell (p := ⟨w.heap.size, 7, none⟩) (by first | (simp; done) | (simp; omega))).trans (by first | (simp; done) | go_simp)
      have M_8 : w1.cell? ⟨w.heap.size, 8, none⟩ = some (.slice ra rn rc) := (hc1.cell (p := ⟨w.heap.size, 8, none⟩) (by first | (simp; done) | (simp; omega))).trans (by first | (simp; done) | go_simp)
      have M_9 : w1.cell? ⟨w.heap.size, 9, none⟩ = some (.int .i64 N) := (hc1.cell (p := ⟨w.heap.size, 9, none⟩) (by first | (simp; done) | (simp; omega))).trans (by first | (simp; done) | go_simp)
      have M_f0 : w1.frozen? ⟨w.heap.size, 0, none⟩ = false := (hc1.frozen (p := ⟨w.heap.size, 0, none⟩) (by first | (simp; done) | (simp; omega))).trans (by first | (simp; done) | go_simp)
      have M_f1 : w1.frozen? ⟨w.heap.size, 1, none⟩ = false := (hc1.frozen (p := ⟨w.heap.size, 1, none⟩) (by first | (simp; done) | (simp; omega))).trans (by first | (simp; done) | go_simp)
      have M_f2 : w1.frozen? ⟨w.heap.size, 2, none⟩ = false := (hc1.frozen (p := ⟨w.heap.size, 2, none⟩) (by first | (simp; done) | (simp; omega))).trans (by first | (simp; done) | go_simp)
      have M_f3 : w1.frozen? ⟨w.heap.size, 3, none⟩ = false := (hc1.frozen (p := ⟨w.heap.size, 3, none⟩) (by first | (simp; done) | (simp; omega))).trans (by first | (simp; done) | go_simp)
      have M_f4 : w1.frozen? ⟨w.heap.size, 4, none⟩ = false := (hc1.frozen (p := ⟨w.heap.size, 4, none⟩) (by first | (simp; done) | (simp; omega))).trans (by first | (simp; done) | go_simp)
      have M_f5 : w1.frozen? ⟨w.heap.size, 5, none⟩ = false := (hc1.frozen (p := ⟨w.heap.size, 5, none⟩) (by first | (simp; done) | (simp; omega))).trans (by first | (simp; done) | go_simp)
      have M_f6 : w1.frozen? ⟨w.heap.size, 6, none⟩ = false := (hc1.frozen (p := ⟨w.heap.size, 6, none⟩) (by first | (simp; done) | (simp; omega))).trans (by first | (simp; done) | go_simp)
      have M_f7 : w1.frozen? ⟨w.heap.size, 7, none⟩ = false := (hc1.frozen (p := ⟨w.heap.size, 7, none⟩) (by first | (simp; done) | (simp; omega))).trans (by first | (simp; done) | go_simp)
      have M_f8 : w1.frozen? ⟨w.heap.size, 8, none⟩ = false := (hc1.frozen (p := ⟨w.heap.size, 8, none⟩) (by first | (simp; done) | (simp; omega))).trans (by first | (simp; done) | go_simp)
      have M_f9 : w1.frozen? ⟨w.heap.size, 9, none⟩ = false := (hc1.frozen (p := ⟨w.heap.size, 9, none⟩) (by first | (simp; done) | (simp; omega))).trans (by first | (simp; done) | go_simp)
      have M_l : w.heap.size < w1.heap.size := Nat.lt_of_lt_of_le (by first | (simp; done) | (simp; omega)) hc1.size
      have R_0 : w1.cell? ⟨w.heap.size + 1, 0, none⟩ = some (.int .u32 0) := (hc1.cell (p := ⟨w.heap.size + 1, 0, none⟩) (by first | (simp; done) | (simp; omega))).trans (by first | (simp; done) | go_simp)
      have R_1 : w1.cell? ⟨w.heap.size + 1, 1, none⟩ = some (.int .u32 0) := (hc1.cell (p := ⟨w.heap.size + 1, 1, none⟩) (by first | (simp; done) | (simp; omega))).trans (by first | (simp; done) | go_simp)
      have R_2 : w1.cell? ⟨w.heap.size + 1, 2, none⟩ = some (.int .u32 0) := (hc1.cell (p := ⟨w.heap.size + 1, 2, none⟩) (by first | (simp; done) | (simp; omega))).trans (by first | (simp; done) | go_simp)
      have R_3 : w1.cell? ⟨w.heap.size + 1, 3, none⟩ = some (.int .u32 0) := (hc1.cell (p := ⟨w.heap.size + 1, 3, none⟩) (by first | (simp; done) | (simp; omega))).trans (by first | (simp; done) | go_simp)
      have R_4 : w1.cell? ⟨w.heap.size + 1, 4, none⟩ = some (.int .u32 0) := (hc1.cell (p := ⟨w.heap.size + 1, 4, none⟩) (by first | (simp; done) | (simp; omega))).trans (by first | (simp; done) | go_simp)
      have R_5 : w1.cell? ⟨w.heap.size + 1, 5, none⟩ = some (.int .u32 0) := (hc1.cell (p := ⟨w.heap.size + 1, 5, none⟩) (by first | (simp; done) | (simp; omega))).trans (by first | (simp; done) | go_simp)
      have R_6 : w1.cell? ⟨w.heap.size + 1, 6, none⟩ = some (.int .u32 0) := (hc1.cell (p := ⟨w.heap.size + 1, 6, none⟩) (by first | (simp; done) | (simp; omega))).trans (by first | (simp; done) | go_simp)
      have R_7 : w1.cell? ⟨w.heap.size + 1, 7, none⟩ = some (.int .u32 0) := (hc1.cell (p := ⟨w.heap.size + 1, 7, none⟩) (by first | (simp; done) | (simp; omega))).trans (by first | (simp; done) | go_simp)
      have R_8 : w1.cell? ⟨w.heap.size + 1, 8, none⟩ = some (.slice none 0 0) := (hc1.cell (p := ⟨w.heap.size + 1, 8, none⟩) (by first | (simp; done) | (simp; omega))).trans (by first | (simp; done) | go_simp)
      have R_9 : w1.cell? ⟨w.heap.size + 1, 9, none⟩ = some (.int .i64 0) := (hc1.cell (p := ⟨w.heap.size + 1, 9, none⟩) (by first | (simp; done) | (simp; omega))).trans (by first | (simp; done) | go_simp)
      have R_f0 : w1.frozen? ⟨w.heap.size + 1, 0, none⟩ = false := (hc1.frozen (p := ⟨w.heap.size + 1, 0, none⟩) (by first | (simp; done) | (simp; omega))).trans (by first | (simp; done) | go_simp)
      have R_f1 : w1.frozen? ⟨w.heap.size + 1, 1, none⟩ = false := (hc1.frozen (p := ⟨w.heap.size + 1, 1, none⟩) (by first | (simp; done) | (simp; omega))).trans (by first | (simp; done) | go_simp)
      have R_f2 : w1.frozen? ⟨w.heap.size + 1, 2, none⟩ = false := (hc1.frozen (p := ⟨w.heap.size + 1, 2, none⟩) (by first | (simp; done) | (simp; omega))).trans (by first | (simp; done) | go_simp)
      have R_f3 : w1.frozen? ⟨w.heap.size + 1, 3, none⟩ = false := (hc1.frozen (p := ⟨w.heap.size + 1, 3, none⟩) (by first | (simp; done) | (simp; omega))).trans (by first | (simp; done) | go_simp)
      have R_f4 : w1.frozen? ⟨w.heap.size + 1, 4, none⟩ = false := (hc1.frozen (p := ⟨w.heap.size + 1, 4, none⟩) (by first | (simp; done) | (simp; omega))).trans (by first | (simp; done) | go_simp)
      have R_f5 : w1.frozen? ⟨w.heap.size + 1, 5, none⟩ = false := (hc1.frozen (p := ⟨w.heap.size + 1, 5, none⟩) (by first | (simp; done) | (simp; omega))).trans (by first | (simp; done) | go_simp)
      have R_f6 : w1.frozen? ⟨w.heap.size + 1, 6, none⟩ = false := (hc1.frozen (p := ⟨w.heap.size + 1, 6, none⟩) (by first | (simp; done) | (simp; omega))).trans (by first | (simp; done) | go_simp)
      have R_f7 : w1.frozen? ⟨w.heap.size + 1, 7, none⟩ = false := (hc1.frozen (p := ⟨w.heap.size + 1, 7, none⟩) (by first | (simp; done) | (simp; omega))).trans (by first | (simp; done) | go_simp)
      have R_f8 : w1.frozen? ⟨w.heap.size + 1, 8, none⟩ = false := (hc1.frozen (p := ⟨w.heap.size + 1, 8, none⟩) (by first | (simp; done) | (simp; omega))).trans (by first | (simp; done) | go_simp)
      have R_f9 : w1.frozen? ⟨w.heap.size + 1, 9, none⟩ = false := (hc1.frozen (p := ⟨w.heap.size + 1, 9, none⟩) (by first | (simp; done) | (simp; omega))).trans (by first | (simp; done) | go_simp)
      have R_l : w.heap.size + 1 < w1.heap.size := Nat.lt_of_lt_of_le (by first | (simp; done) | (simp; omega)) hc1.size
      clear hc1 hb0
      rw [H1.out]
      go_wp2_with fail
      refine bodyPost_ret (v := .tuple #[.agg #[.int .u32 0, .int .u32 0, .int .u32 0, .int .u32 0, .int .u32 0, .int .u32 0, .int .u32 0, .int .u32 0, .slice none 0 0, .int .i64 0], .int .i64 4]) (by simp [results, Tryd.results10, go_sem, *]) rfl ⟨?_, ?_⟩
      · rw [HA.out]; exact MillR.zero _ _ _
      · exact (by repeat' (first | with_reducible exact hb1 | with_reducible refine Below.drew ?_ | with_reducible refine below_drewN ?_ _ | with_reducible refine Below.alloc ?_ (by have := hb1.size; first | (simp; done) | (simp; omega) | omega) _ | with_reducible refine Below.setCell ?_ (by first | (simp; done) | (simp; omega) | omega) _))
    · have HA := hid (show addM v.list rs N ys = (mill v.list (rs ++ ys), (rs ++ ys).drop ((rs ++ ys).length / 64 * 64), N + bn, 0) by unfold addM; rw [← hrn, ← hbn, if_neg (by rw [h1]; simp), if_neg h2])
      have h3 : (bn : Int) ≤ 200000 - N := by omega
      have H1 := hid h1
      have HRN := hid hrn
      have HBN := hid hbn
      have HVK := hid hv
      clear h1 h2 hrn hbn hv
      go_enter Tryd.func10, Tryd.ntmps10
      have hb0 := Below.refl w.heap.size w
      go_wp2_with fail
      with_reducible refine (rvalid_any v ra rn rc N _).mono ?_
      rintro e w1 ⟨rfl, hc1⟩
      have hr1 : CellsAt w1 ra (rs.map (Value.int .u8)) := hr.later (bchain (by repeat' (first | with_reducible exact hb0 | with_reducible refine Below.drew ?_ | with_reducible refine below_drewN ?_ _ | with_reducible refine Below.alloc ?_ (by have := hb0.size; first | (simp; done) | (simp; omega) | omega) _ | with_reducible refine Below.setCell ?_ (by first | (simp; done) | (simp; omega) | omega) _)) hc1)
      have hy1 : CellsAt w1 ba (ys.map (Value.int .u8)) := hy.later (bchain (by repeat' (first | with_reducible exact hb0 | with_reducible refine Below.drew ?_ | with_reducible refine below_drewN ?_ _ | with_reducible refine Below.alloc ?_ (by have := hb0.size; first | (simp; done) | (simp; omega) | omega) _ | with_reducible refine Below.setCell ?_ (by first | (simp; done) | (simp; omega) | omega) _)) hc1)
      have hK1 : CellsAt w1 (some ⟨0, 0, none⟩) (kcs.map (Value.int .u32)) := hK.later (bchain (by repeat' (first | with_reducible exact hb0 | with_reducible refine Below.drew ?_ | with_reducible refine below_drewN ?_ _ | with_reducible refine Below.alloc ?_ (by have := hb0.size; first | (simp; done) | (simp; omega) | omega) _ | with_reducible refine Below.setCell ?_ (by first | (simp; done) | (simp; omega) | omega) _)) hc1)
      have hw1 : 0 < w1.heap.size := Nat.lt_of_lt_of_le hw0 (bchain (by repeat' (first | with_reducible exact hb0 | with_reducible refine Below.drew ?_ | with_reducible refine below_drewN ?_ _ | with_reducible refine Below.alloc ?_ (by have := hb0.size; first | (simp; done) | (simp; omega) | omega) _ | with_reducible refine Below.setCell ?_ (by first | (simp; done) | (simp; omega) | omega) _)) hc1).size
      have hb1 : Below w.heap.size w w1 := bchain (by repeat' (first | with_reducible exact hb0 | with_reducible refine Below.drew ?_ | with_reducible refine below_drewN ?_ _ | with_reducible refine Below.alloc ?_ (by have := hb0.size; first | (simp; done) | (simp; omega) | omega) _ | with_reducible refine Below.setCell ?_ (by first | (simp; done) | (simp; omega) | omega) _)) hc1
      have M_0 : w1.cell? ⟨w.heap.size, 0, none⟩ = some (.int .u32 v.a) := (hc1.cell (p := ⟨w.heap.size, 0, none⟩) (by first | (simp; done) | (simp; omega))).trans (by first | (simp; done) | go_simp)
      have M_1 : w1.cell? ⟨w.heap.size, 1, none⟩ = some (.int .u32 v.b) := (hc1.cell (p := ⟨w.heap.size, 1, none⟩) (by first | (simp; done) | (simp; omega))).trans (by first | (simp; done) | go_simp)
      have M_2 : w1.cell? ⟨w.heap.size, 2, none⟩ = some (.int .u32 v.c) := (hc1.cell (p := ⟨w.heap.size, 2, none⟩) (by first | (simp; done) | (simp; omega))).trans (by first | (simp; done) | go_simp)
      have M_3 : w1.cell? ⟨w.heap.size, 3, none⟩ = some (.int .u32 v.d) := (hc1.cell (p := ⟨w.heap.size, 3, none⟩) (by first | (simp; done) | (simp; omega))).trans (by first | (simp; done) | go_simp)
      have M_4 : w1.cell? ⟨w.heap.size, 4, none⟩ = some (.int .u32 v.e) := (hc1.cell (p := ⟨w.heap.size, 4, none⟩) (by first | (simp; done) | (simp; omega))).trans (by first | (simp; done) | go_simp)
      have M_5 : w1.cell? ⟨w.heap.size, 5, none⟩ = some (.int .u32 v.f) := (hc1.cell (p := ⟨w.heap.size, 5, none⟩) (by first | (simp; done) | (simp; omega))).trans (by first | (simp; done) | go_simp)
      have M_6 : w1.cell? ⟨w.heap.size, 6, none⟩ = some (.int .u32 v.g) := (hc1.cell (p := ⟨w.heap.size, 6, none⟩) (by first | (simp; done) | (simp; omega))).trans (by first | (simp; done) | go_simp)
      have M_7 : w1.cell? ⟨w.heap.size, 7, none⟩ = some (.int .u32 v.z) := (hc1.cell (p := ⟨w.heap.size, 7, none⟩) (by first | (simp; done) | (simp; omega))).trans (by first | (simp; done) | go_simp)
      have M_8 : w1.cell? ⟨w.heap.size, 8, none⟩ = some (.slice ra rn rc) := (hc1.cell (p := ⟨w.heap.size, 8, none⟩) (by first | (simp; done) | (simp; omega))).trans (by first | (simp; done) | go_simp)
      have M_9 : w1.cell? ⟨w.heap.size, 9, none⟩ = some (.int .i64 N) := (hc1.cell (p := ⟨w.heap.size, 9, none⟩) (by first | (simp; done) | (simp; omega))).trans (by first | (simp; done) | go_simp)
      have M_f0 : w1.frozen? ⟨w.heap.size, 0, none⟩ = false := (hc1.frozen (p := ⟨w.heap.size, 0, none⟩) (by first | (simp; done) | (simp; omega))).trans (by first | (simp; done) | go_simp)
      have M_f1 : w1.frozen? ⟨w.heap.size, 1, none⟩ = false := (hc1.frozen (p := ⟨w.heap.size, 1, none⟩) (by first | (simp; done) | (simp; omega))).trans (by first | (simp; done) | go_simp)
      have M_f2 : w1.frozen? ⟨w.heap.size, 2, none⟩ = false := (hc1.frozen (p := ⟨w.heap.size, 2, none⟩) (by first | (simp; done) | (simp; omega))).trans (by first | (simp; done) | go_simp)
      have M_f3 : w1.frozen? ⟨w.heap.size, 3, none⟩ = false := (hc1.frozen (p := ⟨w.heap.size, 3, none⟩) (by first | (simp; done) | (simp; omega))).trans (by first | (simp; done) | go_simp)
      have M_f4 : w1.frozen? ⟨w.heap.size, 4, none⟩ = false := (hc1.frozen (p := ⟨w.heap.size, 4, none⟩) (by first | (simp; done) | (simp; omega))).trans (by first | (simp; done) | go_simp)
      have M_f5 : w1.frozen? ⟨w.heap.size, 5, none⟩ = false := (hc1.frozen (p := ⟨w.heap.size, 5, none⟩) (by first | (simp; done) | (simp; omega))).trans (by first | (simp; done) | go_simp)
      have M_f6 : w1.frozen? ⟨w.heap.size, 6, none⟩ = false := (hc1.frozen (p := ⟨w.heap.size, 6, none⟩) (by first | (simp; done) | (simp; omega))).trans (by first | (simp; done) | go_simp)
      have M_f7 : w1.frozen? ⟨w.heap.size, 7, none⟩ = false := (hc1.frozen (p := ⟨w.heap.size, 7, none⟩) (by first | (simp; done) | (simp; omega))).trans (by first | (simp; done) | go_simp)
      have M_f8 : w1.frozen? ⟨w.heap.size, 8, none⟩ = false := (hc1.frozen (p := ⟨w.heap.size, 8, none⟩) (by first | (simp; done) | (simp; omega))).trans (by first | (simp; done) | go_simp)
      have M_f9 : w1.frozen? ⟨w.heap.size, 9, none⟩ = false := (hc1.frozen (p := ⟨w.heap.size, 9, none⟩) (by first | (simp; done) | (simp; omega))).trans (by first | (simp; done) | go_simp)
      have M_l : w.heap.size < w1.heap.size := Nat.lt_of_lt_of_le (by first | (simp; done) | (simp; omega)) hc1.size
      have R_0 : w1.cell? ⟨w.heap.size + 1, 0, none⟩ = some (.int .u32 0) := (hc1.cell (p := ⟨w.heap.size + 1, 0, none⟩) (by first | (simp; done) | (simp; omega))).trans (by first | (simp; done) | go_simp)
      have R_1 : w1.cell? ⟨w.heap.size + 1, 1, none⟩ = some (.int .u32 0) := (hc1.cell (p := ⟨w.heap.size + 1, 1, none⟩) (by first | (simp; done) | (simp; omega))).trans (by first | (simp; done) | go_simp)
      have R_2 : w1.cell? ⟨w.heap.size + 1, 2, none⟩ = some (.int .u32 0) := (hc1.cell (p := ⟨w.heap.size + 1, 2, none⟩) (by first | (simp; done) | (simp; omega))).trans (by first | (simp; done) | go_simp)
      have R_3 : w1.cell? ⟨w.heap.size + 1, 3, none⟩ = some (.int .u32 0) := (hc1.cell (p := ⟨w.heap.size + 1, 3, none⟩) (by first | (simp; done) | (simp; omega))).trans (by first | (simp; done) | go_simp)
      have R_4 : w1.cell? ⟨w.heap.size + 1, 4, none⟩ = some (.int .u32 0) := (hc1.cell (p := ⟨w.heap.size + 1, 4, none⟩) (by first | (simp; done) | (simp; omega))).trans (by first | (simp; done) | go_simp)
      have R_5 : w1.cell? ⟨w.heap.size + 1, 5, none⟩ = some (.int .u32 0) := (hc1.cell (p := ⟨w.heap.size + 1, 5, none⟩) (by first | (simp; done) | (simp; omega))).trans (by first | (simp; done) | go_simp)
      have R_6 : w1.cell? ⟨w.heap.size + 1, 6, none⟩ = some (.int .u32 0) := (hc1.cell (p := ⟨w.heap.size + 1, 6, none⟩) (by first | (simp; done) | (simp; omega))).trans (by first | (simp; done) | go_simp)
      have R_7 : w1.cell? ⟨w.heap.size + 1, 7, none⟩ = some (.int .u32 0) := (hc1.cell (p := ⟨w.heap.size + 1, 7, none⟩) (by first | (simp; done) | (simp; omega))).trans (by first | (simp; done) | go_simp)
      have R_8 : w1.cell? ⟨w.heap.size + 1, 8, none⟩ = some (.slice none 0 0) := (hc1.cell (p := ⟨w.heap.size + 1, 8, none⟩) (by first | (simp; done) | (simp; omega))).trans (by first | (simp; done) | go_simp)
      have R_9 : w1.cell? ⟨w.heap.size + 1, 9, none⟩ = some (.int .i64 0) := (hc1.cell (p := ⟨w.heap.size + 1, 9, none⟩) (by first | (simp; done) | (simp; omega))).trans (by first | (simp; done) | go_simp)
      have R_f0 : w1.frozen? ⟨w.heap.size + 1, 0, none⟩ = false := (hc1.frozen (p := ⟨w.heap.size + 1, 0, none⟩) (by first | (simp; done) | (simp; omega))).trans (by first | (simp; done) | go_simp)
      have R_f1 : w1.frozen? ⟨w.heap.size + 1, 1, none⟩ = false := (hc1.frozen (p := ⟨w.heap.size + 1, 1, none⟩) (by first | (simp; done) | (simp; omega))).trans (by first | (simp; done) | go_simp)
      have R_f2 : w1.frozen? ⟨w.heap.size + 1, 2, none⟩ = false := (hc1.frozen (p := ⟨w.heap.size + 1, 2, none⟩) (by first | (simp; done) | (simp; omega))).trans (by first | (simp; done) | go_simp)
      have R_f3 : w1.frozen? ⟨w.heap.size + 1, 3, none⟩ = false := (hc1.frozen (p := ⟨w.heap.size + 1, 3, none⟩) (by first | (simp; done) | (simp; omega))).trans (by first | (simp; done) | go_simp)
      have R_f4 : w1.frozen? ⟨w.heap.size + 1, 4, none⟩ = false := (hc1.frozen (p := ⟨w.heap.size + 1, 4, none⟩) (by first | (simp; done) | (simp; omega))).trans (by first | (simp; done) | go_simp)
      have R_f5 : w1.frozen? ⟨w.heap.size + 1, 5, none⟩ = false := (hc1.frozen (p := ⟨w.heap.size + 1, 5, none⟩) (by first | (simp; done) | (simp; omega))).trans (by first | (simp; done) | go_simp)
      have R_f6 : w1.frozen? ⟨w.heap.size + 1, 6, none⟩ = false := (hc1.frozen (p := ⟨w.heap.size + 1, 6, none⟩) (by first | (simp; done) | (simp; omega))).trans (by first | (simp; done) | go_simp)
      have R_f7 : w1.frozen? ⟨w.heap.size + 1, 7, none⟩ = false := (hc1.frozen (p := ⟨w.heap.size + 1, 7, none⟩) (by first | (simp; done) | (simp; omega))).trans (by first | (simp; done) | go_simp)
      have R_f8 : w1.frozen? ⟨w.heap.size + 1, 8, none⟩ = false := (hc1.frozen (p := ⟨w.heap.size + 1, 8, none⟩) (by first | (simp; done) | (simp; omega))).trans (by first | (simp; done) | go_simp)
      have R_f9 : w1.frozen? ⟨w.heap.size + 1, 9, none⟩ = false := (hc1.frozen (p := ⟨w.heap.size + 1, 9, none⟩) (by first | (simp; done) | (simp; omega))).trans (by first | (simp; done) | go_simp)
      have R_l : w.heap.size + 1 < w1.heap.size := Nat.lt_of_lt_of_le (by first | (simp; done) | (simp; omega)) hc1.size
      have zw1 := hb1.size
      have zR1 := R_l
      clear hc1 hr hy hK
      rw [H1.out]
      obtain ⟨i0, hi, hz0, hz1, hz2⟩ := info_parts info_u8
      obtain ⟨L, hL⟩ : ∃ L, rn + bn = L := ⟨_, rfl⟩
      have hLb : L ≤ 140737488355327 := by omega
      have hl1 : (rs.map (Value.int .u8)).length = rn * 1 := by rw [List.length_map, HRN.out, Nat.mul_one]
      have hl2 : (ys.map (Value.int .u8)).length = bn * 1 := by rw [List.length_map, HBN.out, Nat.mul_one]
      have hrL : rn ≤ L := by omega
      have H_hL := hid hL
      have H_hl1 := hid hl1
      have H_hl2 := hid hl2
      clear hL hl1 hl2
      go_wp2_with (at_builtin; refine stop ?_)
      refine Stop.go ?_
      refine wpList_append_cup _ rfl _ _ 24 rfl w1.heap.size 5 i0 (.int .u8 0) 1 1 Tryd.underlying24 hi hz0 hz1 hz2 rfl (by decide) (.slice (some ⟨w1.heap.size, 0, none⟩) 0 0) 0 [] rfl (CupX.zero _ _ _ _ _) ra rn rc (rs.map (Value.int .u8)) rfl H_hl1.out (hr1.alloc _) (ints_oneCell _ _) rn (Nat.zero_add _) (by unfold maxLen; omega) (by omega) (by simp) ?_
      intro a5 c5 w5 o5 hb5
      have hc15 : Below w1.heap.size w1 w5 := Below.trans ((Below.refl _ _).alloc (Nat.le_refl _) _) hb5
      have hy5 := hy1.later hc15
      have z15 := hc15.size
      go_wp2_with (at_builtin; refine stop ?_)
      refine Stop.go ?_
      refine wpList_append_cup _ rfl _ _ 24 rfl w1.heap.size 5 i0 (.int .u8 0) 1 1 Tryd.underlying24 hi hz0 hz1 hz2 rfl (by decide) (.slice a5 rn c5) rn _ rfl o5 ba bn bc (ys.map (Value.int .u8)) rfl H_hl2.out hy5 (ints_oneCell _ _) L H_hL.out (by unfold maxLen; omega) (by omega) z15 ?_
      intro a6 c6 w2 o6 hb6
      have hc2 : Below w1.heap.size w1 w2 := Below.trans hc15 hb6
      clear hr1 hy1 hy5 hb5 hb6 o5 hc15 z15
      obtain ⟨hLc, k6⟩ := o6.cells
      rw [List.nil_append, ← List.map_append] at k6
      obtain ⟨bs, hbs⟩ : ∃ bs, bs = rs ++ ys := ⟨_, rfl⟩
      have hb8 : Bytes8 bs := hbs ▸ hr8.append hy8
      have hLl : L = bs.length := by rw [hbs, List.length_append, ← HRN.out, ← HBN.out]; exact H_hL.out.symm
      rw [← hbs] at k6 HA
      have p6 : bs ≠ [] → ∀ ad, a6 = some ad → w1.heap.size ≤ ad.block := fun hne ad e => (o6.addr (by rw [List.nil_append, ← List.map_append, ← hbs]; simpa using hne) ad e).1
      have hb2 : Below w.heap.size w w2 := bchain (by repeat' (first | with_reducible exact hb1 | with_reducible refine Below.drew ?_ | with_reducible refine below_drewN ?_ _ | with_reducible refine Below.alloc ?_ (by have := hb1.size; first | (simp; done) | (simp; omega) | omega) _ | with_reducible refine Below.setCell ?_ (by first | (simp; done) | (simp; omega) | omega) _)) hc2
      have hst2 : Below w1.heap.size w1 w2 := bchain (by repeat' (first | with_reducible exact Below.refl _ _ | with_reducible refine Below.drew ?_ | with_reducible refine below_drewN ?_ _ | with_reducible refine Below.alloc ?_ (by first | (simp; done) | (simp; omega) | omega) _ | with_reducible refine Below.setCell ?_ (by first | (simp; done) | (simp; omega) | omega) _)) hc2
      replace M_0 := cell_later hst2 M_0
      replace M_1 := cell_later hst2 M_1
      replace M_2 := cell_later hst2 M_2
      replace M_3 := cell_later hst2 M_3
      replace M_4 := cell_later hst2 M_4
      replace M_5 := cell_later hst2 M_5
      replace M_6 := cell_later hst2 M_6
      replace M_7 := cell_later hst2 M_7
      replace M_8 := cell_later hst2 M_8
      replace M_9 := cell_later hst2 M_9
      replace M_f0 := frozen_later hst2 M_l M_f0
      replace M_f1 := frozen_later hst2 M_l M_f1
      replace M_f2 := frozen_later hst2 M_l M_f2
      replace M_f3 := frozen_later hst2 M_l M_f3
      replace M_f4 := frozen_later hst2 M_l M_f4
      replace M_f5 := frozen_later hst2 M_l M_f5
      replace M_f6 := frozen_later hst2 M_l M_f6
      replace M_f7 := frozen_later hst2 M_l M_f7
      replace M_f8 := frozen_later hst2 M_l M_f8
      replace M_f9 := frozen_later hst2 M_l M_f9
      replace M_l := Nat.lt_of_lt_of_le M_l hst2.size
      replace R_0 := cell_later hst2 R_0
      replace R_1 := cell_later hst2 R_1
      replace R_2 := cell_later hst2 R_2
      replace R_3 := cell_later hst2 R_3
      replace R_4 := cell_later hst2 R_4
      replace R_5 := cell_later hst2 R_5
      replace R_6 := cell_later hst2 R_6
      replace R_7 := cell_later hst2 R_7
      replace R_8 := cell_later hst2 R_8
      replace R_9 := cell_later hst2 R_9
      replace R_f0 := frozen_later hst2 R_l R_f0
      replace R_f1 := frozen_later hst2 R_l R_f1
      replace R_f2 := frozen_later hst2 R_l R_f2
      replace R_f3 := frozen_later hst2 R_l R_f3
      replace R_f4 := frozen_later hst2 R_l R_f4
      replace R_f5 := frozen_later hst2 R_l R_f5
      replace R_f6 := frozen_later hst2 R_l R_f6
      replace R_f7 := frozen_later hst2 R_l R_f7
      replace R_f8 := frozen_later hst2 R_l R_f8
      replace R_f9 := frozen_later hst2 R_l R_f9
      replace R_l := Nat.lt_of_lt_of_le R_l hst2.size
      clear hst2
      clear hc2 o6
      have H_hbs := hid hbs
      have H_hLl := hid hLl
      have H_p6 := hid p6
      clear hbs hLl p6
      obtain ⟨q, hq⟩ : ∃ q : Nat, q = L / 64 := ⟨_, rfl⟩
      obtain ⟨p, hp⟩ : ∃ p : Nat, p = q * 64 := ⟨_, rfl⟩
      have eq1 : (L : Int) / 64 = (q : Int) := by omega
      have eq2 : (q : Int) * 64 = (p : Int) := by omega
      have hpL : p ≤ L := by omega
      obtain ⟨a7, hsl, hcut, hblk⟩ := slice_from_any (P := Tryd.prog) ht_bytes hsz_bytes a6 L c6 p hpL hLc
      have hLp := hid (show L - p = L % 64 by omega)
      have H_hq := hid hq
      have H_hp := hid hp
      have H_hcut := hid hcut
      have H_hblk := hid hblk
      clear hq hp hcut hblk
      have hL63 : L ≤ 140737488355328 := by omega
      have hwN : IntKind.i64.wrap (N + (bn : Int)) = N + (bn : Int) := IntWalk.i64_in _ (by omega)
      have hwp : IntKind.i64.wrap ((q : Int) * 64) = (p : Int) := by rw [eq2]; exact IntWalk.i64_in _ (by omega)
      have hpI : (p : Int) ≤ (L : Int) := by omega
      have hwp2 : IntKind.i64.wrap (p : Int) = (p : Int) := IntWalk.i64_in _ (by omega)
      have hwd : IntKind.i64.wrap (q : Int) = (q : Int) := IntWalk.i64_in _ (by omega)
      go_wp2_with fail
      obtain ⟨u, hu⟩ := V8.of_list (mill v.list bs) ((grindN_len _ _ _).trans rfl)
      have HU := hid hu
      clear hu
      go_wp2_with fail
      refine wp_gen fun w3 hc3 => ?_
      have hb3 : Below w.heap.size w w3 := bchain (by repeat' (first | with_reducible exact hb2 | with_reducible refine Below.drew ?_ | with_reducible refine below_drewN ?_ _ | with_reducible refine Below.alloc ?_ (by have := hb2.size; first | (simp; done) | (simp; omega) | omega) _ | with_reducible refine Below.setCell ?_ (by first | (simp; done) | (simp; omega) | omega) _)) hc3
      have hst3 : Below w2.heap.size w2 w3 := bchain (by repeat' (first | with_reducible exact Below.refl _ _ | with_reducible refine Below.drew ?_ | with_reducible refine below_drewN ?_ _ | with_reducible refine Below.alloc ?_ (by first | (simp; done) | (simp; omega) | omega) _ | with_reducible refine Below.setCell ?_ (by first | (simp; done) | (simp; omega) | omega) _)) hc3
      replace M_0 := cell_later hst3 M_0
      replace M_1 := cell_later hst3 M_1
      replace M_2 := cell_later hst3 M_2
      replace M_3 := cell_later hst3 M_3
      replace M_4 := cell_later hst3 M_4
      replace M_5 := cell_later hst3 M_5
      replace M_6 := cell_later hst3 M_6
      replace M_7 := cell_later hst3 M_7
      replace M_8 := cell_later hst3 M_8
      replace M_9 := cell_later hst3 M_9
      replace M_f0 := frozen_later hst3 M_l M_f0
      replace M_f1 := frozen_later hst3 M_l M_f1
      replace M_f2 := frozen_later hst3 M_l M_f2
      replace M_f3 := frozen_later hst3 M_l M_f3
      replace M_f4 := frozen_later hst3 M_l M_f4
      replace M_f5 := frozen_later hst3 M_l M_f5
      replace M_f6 := frozen_later hst3 M_l M_f6
      replace M_f7 := frozen_later hst3 M_l M_f7
      replace M_f8 := frozen_later hst3 M_l M_f8
      replace M_f9 := frozen_later hst3 M_l M_f9
      replace M_l := Nat.lt_of_lt_of_le M_l hst3.size
      replace R_0 := cell_later hst3 R_0
      replace R_1 := cell_later hst3 R_1
      replace R_2 := cell_later hst3 R_2
      replace R_3 := cell_later hst3 R_3
      replace R_4 := cell_later hst3 R_4
      replace R_5 := cell_later hst3 R_5
      replace R_6 := cell_later hst3 R_6
      replace R_7 := cell_later hst3 R_7
      replace R_8 := cell_later hst3 R_8
      replace R_9 := cell_later hst3 R_9
      replace R_f0 := frozen_later hst3 R_l R_f0
      replace R_f1 := frozen_later hst3 R_l R_f1
      replace R_f2 := frozen_later hst3 R_l R_f2
      replace R_f3 := frozen_later hst3 R_l R_f3
      replace R_f4 := frozen_later hst3 R_l R_f4
      replace R_f5 := frozen_later hst3 R_l R_f5
      replace R_f6 := frozen_later hst3 R_l R_f6
      replace R_f7 := frozen_later hst3 R_l R_f7
      replace R_f8 := frozen_later hst3 R_l R_f8
      replace R_f9 := frozen_later hst3 R_l R_f9
      replace R_l := Nat.lt_of_lt_of_le R_l hst3.size
      replace k6 := k6.later hst3
      clear hst3
      have KM_0 := cell_on M_0
      have KM_1 := cell_on M_1
      have KM_2 := cell_on M_2
      have KM_3 := cell_on M_3
      have KM_4 := cell_on M_4
      have KM_5 := cell_on M_5
      have KM_6 := cell_on M_6
      have KM_7 := cell_on M_7
      have KM_8 := cell_on M_8
      have KM_9 := cell_on M_9
      have K6 := CellsAt.on k6
      refine wp_region_on_tail 16 (by kernel_rfl) (by kernel_rfl) ?_
      simp only [List.take_succ_cons, List.take_zero, List.drop_succ_cons, List.drop_zero]
      repeat (go_big_quiet_step ((first | (go_at_call 30; with_reducible exact calls_on (blocks_v u v bs a6 L c6 _ HVK.out H_hLl.out hLc hL63 (K6 _) hb8 HU.out)))))
      refine wpQuiet_nil ?_
      intro w4 hc4
      clear KM_0 KM_1 KM_2 KM_3 KM_4 KM_5 KM_6 KM_7 KM_8 KM_9
      have hb4 : Below w.heap.size w w4 := bchain (by repeat' (first | with_reducible exact hb3 | with_reducible refine Below.drew ?_ | with_reducible refine below_drewN ?_ _ | with_reducible refine Below.alloc ?_ (by have := hb3.size; first | (simp; done) | (simp; omega) | omega) _ | with_reducible refine Below.setCell ?_ (by first | (simp; done) | (simp; omega) | omega) _)) hc4
      have hst4 : Below w3.heap.size w3 w4 := bchain (by repeat' (first | with_reducible exact Below.refl _ _ | with_reducible refine Below.drew ?_ | with_reducible refine below_drewN ?_ _ | with_reducible refine Below.alloc ?_ (by first | (simp; done) | (simp; omega) | omega) _ | with_reducible refine Below.setCell ?_ (by first | (simp; done) | (simp; omega) | omega) _)) hc4
      replace M_0 := cell_later hst4 M_0
      replace M_1 := cell_later hst4 M_1
      replace M_2 := cell_later hst4 M_2
      replace M_3 := cell_later hst4 M_3
      replace M_4 := cell_later hst4 M_4
      replace M_5 := cell_later hst4 M_5
      replace M_6 := cell_later hst4 M_6
      replace M_7 := cell_later hst4 M_7
      replace M_8 := cell_later hst4 M_8
      replace M_9 := cell_later hst4 M_9
      replace M_f0 := frozen_later hst4 M_l M_f0
      replace M_f1 := frozen_later hst4 M_l M_f1
      replace M_f2 := frozen_later hst4 M_l M_f2
      replace M_f3 := frozen_later hst4 M_l M_f3
      replace M_f4 := frozen_later hst4 M_l M_f4
      replace M_f5 := frozen_later hst4 M_l M_f5
      replace M_f6 := frozen_later hst4 M_l M_f6
      replace M_f7 := frozen_later hst4 M_l M_f7
      replace M_f8 := frozen_later hst4 M_l M_f8
      replace M_f9 := frozen_later hst4 M_l M_f9
      replace M_l := Nat.lt_of_lt_of_le M_l hst4.size
      replace R_0 := cell_later hst4 R_0
      replace R_1 := cell_later hst4 R_1
      replace R_2 := cell_later hst4 R_2
      replace R_3 := cell_later hst4 R_3
      replace R_4 := cell_later hst4 R_4
      replace R_5 := cell_later hst4 R_5
      replace R_6 := cell_later hst4 R_6
      replace R_7 := cell_later hst4 R_7
      replace R_8 := cell_later hst4 R_8
      replace R_9 := cell_later hst4 R_9
      replace R_f0 := frozen_later hst4 R_l R_f0
      replace R_f1 := frozen_later hst4 R_l R_f1
      replace R_f2 := frozen_later hst4 R_l R_f2
      replace R_f3 := frozen_later hst4 R_l R_f3
      replace R_f4 := frozen_later hst4 R_l R_f4
      replace R_f5 := frozen_later hst4 R_l R_f5
      replace R_f6 := frozen_later hst4 R_l R_f6
      replace R_f7 := frozen_later hst4 R_l R_f7
      replace R_f8 := frozen_later hst4 R_l R_f8
      replace R_f9 := frozen_later hst4 R_l R_f9
      replace R_l := Nat.lt_of_lt_of_le R_l hst4.size
      replace k6 := k6.later hst4
      clear hst4
      have k7 : CellsAt w4 a7 ((bs.drop p).map (Value.int .u8)) := by rw [List.map_drop]; exact H_hcut.out _ _ k6 (by rw [List.length_map, ← H_hLl.out])
      go_wp2_with fail
      refine bodyPost_ret (v := .tuple #[.agg #[.int .u32 u.a, .int .u32 u.b, .int .u32 u.c, .int .u32 u.d, .int .u32 u.e, .int .u32 u.f, .int .u32 u.g, .int .u32 u.z, .slice a7 (L - p) (c6 - p), .int .i64 (N + (bn : Int))], .int .i64 0]) (by simp [results, Tryd.results10, go_sem, *]) rfl ⟨?_, ?_⟩
      · rw [HA.out]
        have hpe : bs.length / 64 * 64 = p := by rw [← H_hLl.out, H_hp.out, H_hq.out]
        refine ⟨u, a7, L - p, c6 - p, rfl, HU.out, by rw [hpe, List.length_drop, ← H_hLl.out], ?_, ?_⟩
        · rw [hpe]
          by_cases hne : bs = []
          · left; rw [hne]; simp
          · have p7 : ∀ ad, a7 = some ad → ad.block ≠ w.heap.size + 1 := fun ad e => by
              obtain ⟨ad', e1, e2⟩ := H_hblk.out ad e
              have := H_p6.out hne ad' e1
              omega
            repeat' (first | with_reducible exact k7 | (refine CellsAt.setFarG ?_ p7 _))
        · intro hx ad e
          have hne : bs ≠ [] := fun e => hx (by rw [e]; simp)
          obtain ⟨ad', e1, e2⟩ := H_hblk.out ad e
          have := H_p6.out hne ad' e1
          omega
      · exact (by repeat' (first | with_reducible exact hb4 | with_reducible refine Below.drew ?_ | with_reducible refine below_drewN ?_ _ | with_reducible refine Below.alloc ?_ (by have := hb4.size; first | (simp; done) | (simp; omega) | omega) _ | with_reducible refine Below.setCell ?_ (by first | (simp; done) | (simp; omega) | omega) _))
  · have h1' : vdB N rn = false := by simpa using h1
    have HA := hid (show addM v.list rs N ys = (List.replicate 8 0, [], 0, 8) by unfold addM; rw [← hrn, if_pos h1'])
    have H1 := hid h1'
    clear hrn hbn h1 h1' hr hy hb
    go_enter Tryd.func10, Tryd.ntmps10
    have hb0 := Below.refl w.heap.size w
    go_wp2_with fail
    with_reducible refine (rvalid_any v ra rn rc N _).mono ?_
    rintro e w1 ⟨rfl, hc1⟩
    have hb1 : Below w.heap.size w w1 := bchain (by repeat' (first | with_reducible exact hb0 | with_reducible refine Below.drew ?_ | with_reducible refine below_drewN ?_ _ | with_reducible refine Below.alloc ?_ (by have := hb0.size; first | (simp; done) | (simp; omega) | omega) _ | with_reducible refine Below.setCell ?_ (by first | (simp; done) | (simp; omega) | omega) _)) hc1
    have M_0 : w1.cell? ⟨w.heap.size, 0, none⟩ = some (.int .u32 v.a) := (hc1.cell (p := ⟨w.heap.size, 0, none⟩) (by first | (simp; done) | (simp; omega))).trans (by first | (simp; done) | go_simp)
    have M_1 : w1.cell? ⟨w.heap.size, 1, none⟩ = some (.int .u32 v.b) := (hc1.cell (p := ⟨w.heap.size, 1, none⟩) (by first | (simp; done) | (simp; omega))).trans (by first | (simp; done) | go_simp)
    have M_2 : w1.cell? ⟨w.heap.size, 2, none⟩ = some (.int .u32 v.c) := (hc1.cell (p := ⟨w.heap.size, 2, none⟩) (by first | (simp; done) | (simp; omega))).trans (by first | (simp; done) | go_simp)
    have M_3 : w1.cell? ⟨w.heap.size, 3, none⟩ = some (.int .u32 v.d) := (hc1.cell (p := ⟨w.heap.size, 3, none⟩) (by first | (simp; done) | (simp; omega))).trans (by first | (simp; done) | go_simp)
    have M_4 : w1.cell? ⟨w.heap.size, 4, none⟩ = some (.int .u32 v.e) := (hc1.cell (p := ⟨w.heap.size, 4, none⟩) (by first | (simp; done) | (simp; omega))).trans (by first | (simp; done) | go_simp)
    have M_5 : w1.cell? ⟨w.heap.size, 5, none⟩ = some (.int .u32 v.f) := (hc1.cell (p := ⟨w.heap.size, 5, none⟩) (by first | (simp; done) | (simp; omega))).trans (by first | (simp; done) | go_simp)
    have M_6 : w1.cell? ⟨w.heap.size, 6, none⟩ = some (.int .u32 v.g) := (hc1.cell (p := ⟨w.heap.size, 6, none⟩) (by first | (simp; done) | (simp; omega))).trans (by first | (simp; done) | go_simp)
    have M_7 : w1.cell? ⟨w.heap.size, 7, none⟩ = some (.int .u32 v.z) := (hc1.cell (p := ⟨w.heap.size, 7, none⟩) (by first | (simp; done) | (simp; omega))).trans (by first | (simp; done) | go_simp)
    have M_8 : w1.cell? ⟨w.heap.size, 8, none⟩ = some (.slice ra rn rc) := (hc1.cell (p := ⟨w.heap.size, 8, none⟩) (by first | (simp; done) | (simp; omega))).trans (by first | (simp; done) | go_simp)
    have M_9 : w1.cell? ⟨w.heap.size, 9, none⟩ = some (.int .i64 N) := (hc1.cell (p := ⟨w.heap.size, 9, none⟩) (by first | (simp; done) | (simp; omega))).trans (by first | (simp; done) | go_simp)
    have M_f0 : w1.frozen? ⟨w.heap.size, 0, none⟩ = false := (hc1.frozen (p := ⟨w.heap.size, 0, none⟩) (by first | (simp; done) | (simp; omega))).trans (by first | (simp; done) | go_simp)
    have M_f1 : w1.frozen? ⟨w.heap.size, 1, none⟩ = false := (hc1.frozen (p := ⟨w.heap.size, 1, none⟩) (by first | (simp; done) | (simp; omega))).trans (by first | (simp; done) | go_simp)
    have M_f2 : w1.frozen? ⟨w.heap.size, 2, none⟩ = false := (hc1.frozen (p := ⟨w.heap.size, 2, none⟩) (by first | (simp; done) | (simp; omega))).trans (by first | (simp; done) | go_simp)
    have M_f3 : w1.frozen? ⟨w.heap.size, 3, none⟩ = false := (hc1.frozen (p := ⟨w.heap.size, 3, none⟩) (by first | (simp; done) | (simp; omega))).trans (by first | (simp; done) | go_simp)
    have M_f4 : w1.frozen? ⟨w.heap.size, 4, none⟩ = false := (hc1.frozen (p := ⟨w.heap.size, 4, none⟩) (by first | (simp; done) | (simp; omega))).trans (by first | (simp; done) | go_simp)
    have M_f5 : w1.frozen? ⟨w.heap.size, 5, none⟩ = false := (hc1.frozen (p := ⟨w.heap.size, 5, none⟩) (by first | (simp; done) | (simp; omega))).trans (by first | (simp; done) | go_simp)
    have M_f6 : w1.frozen? ⟨w.heap.size, 6, none⟩ = false := (hc1.frozen (p := ⟨w.heap.size, 6, none⟩) (by first | (simp; done) | (simp; omega))).trans (by first | (simp; done) | go_simp)
    have M_f7 : w1.frozen? ⟨w.heap.size, 7, none⟩ = false := (hc1.frozen (p := ⟨w.heap.size, 7, none⟩) (by first | (simp; done) | (simp; omega))).trans (by first | (simp; done) | go_simp)
    have M_f8 : w1.frozen? ⟨w.heap.size, 8, none⟩ = false := (hc1.frozen (p := ⟨w.heap.size, 8, none⟩) (by first | (simp; done) | (simp; omega))).trans (by first | (simp; done) | go_simp)
    have M_f9 : w1.frozen? ⟨w.heap.size, 9, none⟩ = false := (hc1.frozen (p := ⟨w.heap.size, 9, none⟩) (by first | (simp; done) | (simp; omega))).trans (by first | (simp; done) | go_simp)
    have M_l : w.heap.size < w1.heap.size := Nat.lt_of_lt_of_le (by first | (simp; done) | (simp; omega)) hc1.size
    have R_0 : w1.cell? ⟨w.heap.size + 1, 0, none⟩ = some (.int .u32 0) := (hc1.cell (p := ⟨w.heap.size + 1, 0, none⟩) (by first | (simp; done) | (simp; omega))).trans (by first | (simp; done) | go_simp)
    have R_1 : w1.cell? ⟨w.heap.size + 1, 1, none⟩ = some (.int .u32 0) := (hc1.cell (p := ⟨w.heap.size + 1, 1, none⟩) (by first | (simp; done) | (simp; omega))).trans (by first | (simp; done) | go_simp)
    have R_2 : w1.cell? ⟨w.heap.size + 1, 2, none⟩ = some (.int .u32 0) := (hc1.cell (p := ⟨w.heap.size + 1, 2, none⟩) (by first | (simp; done) | (simp; omega))).trans (by first | (simp; done) | go_simp)
    have R_3 : w1.cell? ⟨w.heap.size + 1, 3, none⟩ = some (.int .u32 0) := (hc1.cell (p := ⟨w.heap.size + 1, 3, none⟩) (by first | (simp; done) | (simp; omega))).trans (by first | (simp; done) | go_simp)
    have R_4 : w1.cell? ⟨w.heap.size + 1, 4, none⟩ = some (.int .u32 0) := (hc1.cell (p := ⟨w.heap.size + 1, 4, none⟩) (by first | (simp; done) | (simp; omega))).trans (by first | (simp; done) | go_simp)
    have R_5 : w1.cell? ⟨w.heap.size + 1, 5, none⟩ = some (.int .u32 0) := (hc1.cell (p := ⟨w.heap.size + 1, 5, none⟩) (by first | (simp; done) | (simp; omega))).trans (by first | (simp; done) | go_simp)
    have R_6 : w1.cell? ⟨w.heap.size + 1, 6, none⟩ = some (.int .u32 0) := (hc1.cell (p := ⟨w.heap.size + 1, 6, none⟩) (by first | (simp; done) | (simp; omega))).trans (by first | (simp; done) | go_simp)
    have R_7 : w1.cell? ⟨w.heap.size + 1, 7, none⟩ = some (.int .u32 0) := (hc1.cell (p := ⟨w.heap.size + 1, 7, none⟩) (by first | (simp; done) | (simp; omega))).trans (by first | (simp; done) | go_simp)
    have R_8 : w1.cell? ⟨w.heap.size + 1, 8, none⟩ = some (.slice none 0 0) := (hc1.cell (p := ⟨w.heap.size + 1, 8, none⟩) (by first | (simp; done) | (simp; omega))).trans (by first | (simp; done) | go_simp)
    have R_9 : w1.cell? ⟨w.heap.size + 1, 9, none⟩ = some (.int .i64 0) := (hc1.cell (p := ⟨w.heap.size + 1, 9, none⟩) (by first | (simp; done) | (simp; omega))).trans (by first | (simp; done) | go_simp)
    have R_f0 : w1.frozen? ⟨w.heap.size + 1, 0, none⟩ = false := (hc1.frozen (p := ⟨w.heap.size + 1, 0, none⟩) (by first | (simp; done) | (simp; omega))).trans (by first | (simp; done) | go_simp)
    have R_f1 : w1.frozen? ⟨w.heap.size + 1, 1, none⟩ = false := (hc1.frozen (p := ⟨w.heap.size + 1, 1, none⟩) (by first | (simp; done) | (simp; omega))).trans (by first | (simp; done) | go_simp)
    have R_f2 : w1.frozen? ⟨w.heap.size + 1, 2, none⟩ = false := (hc1.frozen (p := ⟨w.heap.size + 1, 2, none⟩) (by first | (simp; done) | (simp; omega))).trans (by first | (simp; done) | go_simp)
    have R_f3 : w1.frozen? ⟨w.heap.size + 1, 3, none⟩ = false := (hc1.frozen (p := ⟨w.heap.size + 1, 3, none⟩) (by first | (simp; done) | (simp; omega))).trans (by first | (simp; done) | go_simp)
    have R_f4 : w1.frozen? ⟨w.heap.size + 1, 4, none⟩ = false := (hc1.frozen (p := ⟨w.heap.size + 1, 4, none⟩) (by first | (simp; done) | (simp; omega))).trans (by first | (simp; done) | go_simp)
    have R_f5 : w1.frozen? ⟨w.heap.size + 1, 5, none⟩ = false := (hc1.frozen (p := ⟨w.heap.size + 1, 5, none⟩) (by first | (simp; done) | (simp; omega))).trans (by first | (simp; done) | go_simp)
    have R_f6 : w1.frozen? ⟨w.heap.size + 1, 6, none⟩ = false := (hc1.frozen (p := ⟨w.heap.size + 1, 6, none⟩) (by first | (simp; done) | (simp; omega))).trans (by first | (simp; done) | go_simp)
    have R_f7 : w1.frozen? ⟨w.heap.size + 1, 7, none⟩ = false := (hc1.frozen (p := ⟨w.heap.size + 1, 7, none⟩) (by first | (simp; done) | (simp; omega))).trans (by first | (simp; done) | go_simp)
    have R_f8 : w1.frozen? ⟨w.heap.size + 1, 8, none⟩ = false := (hc1.frozen (p := ⟨w.heap.size + 1, 8, none⟩) (by first | (simp; done) | (simp; omega))).trans (by first | (simp; done) | go_simp)
    have R_f9 : w1.frozen? ⟨w.heap.size + 1, 9, none⟩ = false := (hc1.frozen (p := ⟨w.heap.size + 1, 9, none⟩) (by first | (simp; done) | (simp; omega))).trans (by first | (simp; done) | go_simp)
    have R_l : w.heap.size + 1 < w1.heap.size := Nat.lt_of_lt_of_le (by first | (simp; done) | (simp; omega)) hc1.size
    clear hc1 hb0
    rw [H1.out]
    go_wp2_with fail
    refine bodyPost_ret (v := .tuple #[.agg #[.int .u32 0, .int .u32 0, .int .u32 0, .int .u32 0, .int .u32 0, .int .u32 0, .int .u32 0, .int .u32 0, .slice none 0 0, .int .i64 0], .int .i64 8]) (by simp [results, Tryd.results10, go_sem, *]) rfl ⟨?_, ?_⟩
    · rw [HA.out]; exact MillR.zero _ _ _
    · exact (by repeat' (first | with_reducible exact hb1 | with_reducible refine Below.drew ?_ | with_reducible refine below_drewN ?_ _ | with_reducible refine Below.alloc ?_ (by have := hb1.size; first | (simp; done) | (simp; omega) | omega) _ | with_reducible refine Below.setCell ?_ (by first | (simp; done) | (simp; omega) | omega) _))

end Go.Proofs.YtlilodfddojlhaaDoor
