/- The package sign and its reference: what they compute for any input. -/
import Derived.Test.YtdlacedminebdaaDoorSignRefs2
import Derived.Test.YtdlacedminebdaaDoorDigCard
namespace Go.Proofs.YtdlacedminebdaaDoor
set_option linter.unusedSimpArgs false
set_option linter.unusedVariables false
set_option linter.unnecessarySimpa false
open Go.RowKit

def badS (s : Int) : Prop := s = 0 ∨ 500000003 ≤ s
instance (s : Int) : Decidable (badS s) := inferInstanceAs (Decidable (s = 0 ∨ 500000003 ≤ s))
def chkZ (s : Int) : Int := if badS s then 2 else 0
def pubZ (s : Int) : Int × Int := if badS s then (0, 2) else (pubK s, 0)
def nonZ (s : Int) (bs : List Int) : Int × Int := if badS s then (0, 2) else if 9991 < bs.length then (0, 4) else (nonP s bs, 0)
def chaZ (r y : Int) (bs : List Int) : Int × Int := if 9991 < bs.length then (0, 4) else (chaP r y bs, 0)
def sgnZ (s : Int) (bs : List Int) : Int × Int × Int := if badS s then (0, 0, 2) else if 9991 < bs.length then (0, 0, 4) else (sgE s bs, sgS s bs, 0)
def verZ (y E S : Int) (bs : List Int) : Int := if isB y = false then 2 else if 9991 < bs.length then 4 else if 500000003 ≤ E ∨ 500000003 ≤ S then 22 else if chaP (backR y E S) y bs = E then 0 else 22
def eI (k : IntKind) (r : Int × Int) : Ending := .returned (.tuple #[.int k r.1, .int .i64 r.2])
def eS (r : Int × Int × Int) : Ending := .returned (.tuple #[.agg #[.int .u32 r.1, .int .u32 r.2.1], .int .i64 r.2.2])
theorem good_of {s : Int} (h0 : 0 ≤ s) (h : ¬ badS s) : 1 ≤ s ∧ s < 500000003 := by unfold badS at h; omega

theorem check_any (s : Int) (w : World) (h0 : 0 ≤ s) (h4 : s < 4294967296) :
    Calls Tryd.prog 20 #[.int .u32 s] w fun e w' =>
      e = .returned (.int .i64 (chkZ s)) ∧ w = w' := by
  unfold chkZ
  by_cases h : badS s
  · rw [if_pos h]; exact check_no s w h0 h4 h
  · rw [if_neg h]; exact check_ok s w (good_of h0 h).1 (good_of h0 h).2
theorem rcheck_any (s : Int) (w : World) (h0 : 0 ≤ s) (h4 : s < 4294967296) :
    Calls Tryd.prog 21 #[.int .u32 s] w fun e w' =>
      e = .returned (.int .i64 (chkZ s)) ∧ w = w' := by
  unfold chkZ
  by_cases h : badS s
  · rw [if_pos h]; exact rcheck_no s w h0 h4 h
  · rw [if_neg h]; exact rcheck_ok s w (good_of h0 h).1 (good_of h0 h).2
theorem public_any (s : Int) (w : World) (h0 : 0 ≤ s) (h4 : s < 4294967296) :
    Calls Tryd.prog 12 #[.int .u32 s] w fun e w' =>
      e = eI .u32 (pubZ s) ∧ Below w.heap.size w w' := by
  unfold pubZ
  by_cases h : badS s
  · rw [if_pos h]; exact public_no s w h0 h4 h
  · rw [if_neg h]; exact public_ok s w (good_of h0 h).1 (good_of h0 h).2
theorem rpublic_any (s : Int) (w : World) (h0 : 0 ≤ s) (h4 : s < 4294967296) :
    Calls Tryd.prog 13 #[.int .u32 s] w fun e w' =>
      e = eI .u32 (pubZ s) ∧ Below w.heap.size w w' := by
  unfold pubZ
  by_cases h : badS s
  · rw [if_pos h]; exact rpublic_no s w h0 h4 h
  · rw [if_neg h]; exact rpublic_ok s w (good_of h0 h).1 (good_of h0 h).2
theorem nonce_all (s : Int) (bs : List Int) (a : Option Addr) (n c : Nat) (w : World) (h0 : 0 ≤ s) (h4 : s < 4294967296) (hm : MsgIn w a n bs) (hn : n ≤ 140737488355328) (hT : TabK w) :
    Calls Tryd.prog 14 #[.int .u32 s, .slice a n c] w fun e w' =>
      e = eI .u32 (nonZ s bs) ∧ Below w.heap.size w w' := by
  unfold nonZ
  by_cases h : badS s
  · rw [if_pos h]; exact nonce_no s a n c w h0 h4 h
  · rw [if_neg h]
    have hg := good_of h0 h
    by_cases hl : 9991 < bs.length
    · rw [if_pos hl]; exact nonce_many s a n c w hg.1 hg.2 (hm.len ▸ hl) hn
    · rw [if_neg hl]; exact nonce_ok s bs a n c w hg.1 hg.2 hm (by have := hm.len; omega) hT
theorem rnonce_all (s : Int) (bs : List Int) (a : Option Addr) (n c : Nat) (w : World) (h0 : 0 ≤ s) (h4 : s < 4294967296) (hm : MsgIn w a n bs) :
    Calls Tryd.prog 15 #[.int .u32 s, .slice a n c] w fun e w' =>
      e = eI .u32 (nonZ s bs) ∧ Below w.heap.size w w' := by
  unfold nonZ
  by_cases h : badS s
  · rw [if_pos h]; exact rnonce_no s a n c w h0 h4 h
  · rw [if_neg h]
    have hg := good_of h0 h
    by_cases hl : 9991 < bs.length
    · rw [if_pos hl]; exact rnonce_many s a n c w hg.1 hg.2 (hm.len ▸ hl)
    · rw [if_neg hl]; exact rnonce_ok s bs a n c w hg.1 hg.2 hm (by have := hm.len; omega)
theorem challenge_all (r y : Int) (bs : List Int) (a : Option Addr) (n c : Nat) (w : World) (r0 : 0 ≤ r) (r4 : r < 4294967296) (y0 : 0 ≤ y) (y4 : y < 4294967296) (hm : MsgIn w a n bs) (hn : n ≤ 140737488355328) (hT : TabK w) :
    Calls Tryd.prog 16 #[.int .u32 r, .int .u32 y, .slice a n c] w fun e w' =>
      e = eI .u32 (chaZ r y bs) ∧ Below w.heap.size w w' := by
  unfold chaZ
  by_cases hl : 9991 < bs.length
  · rw [if_pos hl]; exact challenge_many r y a n c w (hm.len ▸ hl) hn
  · rw [if_neg hl]; exact challenge_ok r y bs a n c w r0 r4 y0 y4 hm (by have := hm.len; omega) hT
theorem rchallenge_all (r y : Int) (bs : List Int) (a : Option Addr) (n c : Nat) (w : World) (r0 : 0 ≤ r) (r4 : r < 4294967296) (y0 : 0 ≤ y) (y4 : y < 4294967296) (hm : MsgIn w a n bs) :
    Calls Tryd.prog 17 #[.int .u32 r, .int .u32 y, .slice a n c] w fun e w' =>
      e = eI .u32 (chaZ r y bs) ∧ Below w.heap.size w w' := by
  unfold chaZ
  by_cases hl : 9991 < bs.length
  · rw [if_pos hl]; exact rChallenge_many r y a n c w (hm.len ▸ hl)
  · rw [if_neg hl]; exact rChallenge_ok r y bs a n c w r0 r4 y0 y4 hm (by have := hm.len; omega)
theorem sign_all (s : Int) (bs : List Int) (a : Option Addr) (n c : Nat) (w : World) (h0 : 0 ≤ s) (h4 : s < 4294967296) (hm : MsgIn w a n bs) (hn : n ≤ 140737488355328) (hT : TabK w) :
    Calls Tryd.prog 18 #[.int .u32 s, .slice a n c] w fun e w' =>
      e = eS (sgnZ s bs) ∧ Below w.heap.size w w' := by
  unfold sgnZ
  by_cases h : badS s
  · rw [if_pos h]; exact sign_no s a n c w h0 h4 h
  · rw [if_neg h]
    have hg := good_of h0 h
    by_cases hl : 9991 < bs.length
    · rw [if_pos hl]; exact sign_many s a n c w hg.1 hg.2 (hm.len ▸ hl) hn
    · rw [if_neg hl]; exact sign_ok s bs a n c w hg.1 hg.2 hm (by have := hm.len; omega) hT
theorem rsign_all (s : Int) (bs : List Int) (a : Option Addr) (n c : Nat) (w : World) (h0 : 0 ≤ s) (h4 : s < 4294967296) (hm : MsgIn w a n bs) :
    Calls Tryd.prog 19 #[.int .u32 s, .slice a n c] w fun e w' =>
      e = eS (sgnZ s bs) ∧ Below w.heap.size w w' := by
  unfold sgnZ
  by_cases h : badS s
  · rw [if_pos h]; exact rsign_no s a n c w h0 h4 h
  · rw [if_neg h]
    have hg := good_of h0 h
    by_cases hl : 9991 < bs.length
    · rw [if_pos hl]; exact rsign_many s a n c w hg.1 hg.2 (hm.len ▸ hl)
    · rw [if_neg hl]; exact rsign_ok s bs a n c w hg.1 hg.2 hm (by have := hm.len; omega)
theorem verify_all (y E S : Int) (bs : List Int) (a : Option Addr) (n c : Nat) (w : World) (y0 : 0 ≤ y) (y4 : y < 4294967296) (hE0 : 0 ≤ E) (hS0 : 0 ≤ S) (hm : MsgIn w a n bs) (hT : TabK w) :
    Calls Tryd.prog 10 #[.int .u32 y, .slice a n c, .agg #[.int .u32 E, .int .u32 S]] w fun e w' =>
      e = .returned (.int .i64 (verZ y E S bs)) ∧ Below w.heap.size w w' := by
  unfold verZ
  cases h : isB y with
  | false => exact verify_no y E S a n c w y0 y4 h
  | true =>
    rw [if_neg (by decide)]
    by_cases hl : 9991 < bs.length
    · rw [if_pos hl]; exact verify_many y E S a n c w y0 y4 h (hm.len ▸ hl)
    · rw [if_neg hl]
      have hn : n ≤ 9991 := by have := hm.len; omega
      by_cases hb : 500000003 ≤ E ∨ 500000003 ≤ S
      · rw [if_pos hb]; exact verify_big y E S a n c w y0 y4 h hn hE0 hS0 hb
      · rw [if_neg hb]; exact verify_go y E S bs a n c w h hm hn hT hE0 (by omega) hS0 (by omega)

theorem rverify_no (y E S : Int) (a : Option Addr) (n c : Nat) (w : World) (y0 : 0 ≤ y) (y4 : y < 4294967296) (h : isB y = false) :
    Calls Tryd.prog 11 #[.int .u32 y, .slice a n c, .agg #[.int .u32 E, .int .u32 S]] w fun e w' =>
      e = .returned (.int .i64 2) ∧ Below w.heap.size w w' := by
  have H_h := Box.mk h
  clear h
  go_enter Tryd.func11, Tryd.ntmps11
  have hb0 := Below.refl w.heap.size w
  go_wp2_with fail
  refine (ris_any y _ y0 y4).mono ?_
  rintro e w' ⟨rfl, rfl⟩
  rw [H_h.out]
  go_wp2_with fail
  go_ret
  exact ⟨rfl, by repeat' (first | with_reducible exact hb0 | with_reducible refine Below.drew ?_ | with_reducible refine below_drewN ?_ _ | with_reducible refine Below.alloc ?_ (by have := hb0.size; first | (simp; done) | (simp; omega) | omega) _ | with_reducible refine Below.setCell ?_ (by first | (simp; done) | (simp; omega) | omega) _)⟩
theorem rverify_many (y E S : Int) (a : Option Addr) (n c : Nat) (w : World) (y0 : 0 ≤ y) (y4 : y < 4294967296) (h : isB y = true) (hn : 9991 < n) :
    Calls Tryd.prog 11 #[.int .u32 y, .slice a n c, .agg #[.int .u32 E, .int .u32 S]] w fun e w' =>
      e = .returned (.int .i64 4) ∧ Below w.heap.size w w' := by
  have hnI : (9991 : Int) < (n : Int) := by omega
  have H_h := Box.mk h
  clear h
  go_enter Tryd.func11, Tryd.ntmps11
  have hb0 := Below.refl w.heap.size w
  go_wp2_with fail
  refine (ris_any y _ y0 y4).mono ?_
  rintro e w' ⟨rfl, rfl⟩
  rw [H_h.out]
  go_wp2_with fail
  go_ret
  exact ⟨rfl, by repeat' (first | with_reducible exact hb0 | with_reducible refine Below.drew ?_ | with_reducible refine below_drewN ?_ _ | with_reducible refine Below.alloc ?_ (by have := hb0.size; first | (simp; done) | (simp; omega) | omega) _ | with_reducible refine Below.setCell ?_ (by first | (simp; done) | (simp; omega) | omega) _)⟩

theorem rverify_on (y E S : Int) (B : Bool) (a : Option Addr) (n c : Nat) (w : World) (y0 : 0 ≤ y) (y4 : y < 4294967296) (h : isB y = true) (hn : n ≤ 9991)
    (hR : ∀ w1, Below w.heap.size w w1 → Calls Tryd.prog 31 #[.int .u32 y, .slice a n c, .agg #[.int .u32 E, .int .u32 S]] w1 fun e w' => e = .returned (.bool B) ∧ Below w1.heap.size w1 w') :
    Calls Tryd.prog 11 #[.int .u32 y, .slice a n c, .agg #[.int .u32 E, .int .u32 S]] w fun e w' =>
      e = .returned (.int .i64 (if B = true then 0 else 22)) ∧ Below w.heap.size w w' := by
  have hnI : (n : Int) ≤ 9991 := by omega
  have H_h := Box.mk h
  have H_hR := Box.mk hR
  clear h hR
  cases B
  · rw [if_neg (by decide)]
    go_enter Tryd.func11, Tryd.ntmps11
    have hb0 := Below.refl w.heap.size w
    go_wp2_with fail
    refine (ris_any y _ y0 y4).mono ?_
    rintro e w' ⟨rfl, rfl⟩
    rw [H_h.out]
    go_wp2_with fail
    with_reducible refine (H_hR.out _ (below_alloc _ _)).mono ?_
    rintro e w1 ⟨rfl, hc1⟩
    have hb1 : Below w.heap.size w w1 := bchain (by repeat' (first | with_reducible exact hb0 | with_reducible refine Below.drew ?_ | with_reducible refine below_drewN ?_ _ | with_reducible refine Below.alloc ?_ (by have := hb0.size; first | (simp; done) | (simp; omega) | omega) _ | with_reducible refine Below.setCell ?_ (by first | (simp; done) | (simp; omega) | omega) _)) hc1
    have O_0 : w1.cell? ⟨w.heap.size, 0, none⟩ = some (.int .u32 E) := (hc1.cell (p := ⟨w.heap.size, 0, none⟩) (by first | (simp; done) | (simp; omega))).trans (by first | (simp; done) | go_simp)
    have O_1 : w1.cell? ⟨w.heap.size, 1, none⟩ = some (.int .u32 S) := (hc1.cell (p := ⟨w.heap.size, 1, none⟩) (by first | (simp; done) | (simp; omega))).trans (by first | (simp; done) | go_simp)
    have O_l : w.heap.size < w1.heap.size := Nat.lt_of_lt_of_le (by first | (simp; done) | (simp; omega)) hc1.size
    clear hc1 hb0
    go_wp2_with fail
    go_ret
    exact ⟨rfl, by repeat' (first | with_reducible exact hb1 | with_reducible refine Below.drew ?_ | with_reducible refine below_drewN ?_ _ | with_reducible refine Below.alloc ?_ (by have := hb1.size; first | (simp; done) | (simp; omega) | omega) _ | with_reducible refine Below.setCell ?_ (by first | (simp; done) | (simp; omega) | omega) _)⟩
  · rw [if_pos rfl]
    go_enter Tryd.func11, Tryd.ntmps11
    have hb0 := Below.refl w.heap.size w
    go_wp2_with fail
    refine (ris_any y _ y0 y4).mono ?_
    rintro e w' ⟨rfl, rfl⟩
    rw [H_h.out]
    go_wp2_with fail
    with_reducible refine (H_hR.out _ (below_alloc _ _)).mono ?_
    rintro e w1 ⟨rfl, hc1⟩
    have hb1 : Below w.heap.size w w1 := bchain (by repeat' (first | with_reducible exact hb0 | with_reducible refine Below.drew ?_ | with_reducible refine below_drewN ?_ _ | with_reducible refine Below.alloc ?_ (by have := hb0.size; first | (simp; done) | (simp; omega) | omega) _ | with_reducible refine Below.setCell ?_ (by first | (simp; done) | (simp; omega) | omega) _)) hc1
    have O_0 : w1.cell? ⟨w.heap.size, 0, none⟩ = some (.int .u32 E) := (hc1.cell (p := ⟨w.heap.size, 0, none⟩) (by first | (simp; done) | (simp; omega))).trans (by first | (simp; done) | go_simp)
    have O_1 : w1.cell? ⟨w.heap.size, 1, none⟩ = some (.int .u32 S) := (hc1.cell (p := ⟨w.heap.size, 1, none⟩) (by first | (simp; done) | (simp; omega))).trans (by first | (simp; done) | go_simp)
    have O_l : w.heap.size < w1.heap.size := Nat.lt_of_lt_of_le (by first | (simp; done) | (simp; omega)) hc1.size
    clear hc1 hb0
    go_wp2_with fail
    go_ret
    exact ⟨rfl, by repeat' (first | with_reducible exact hb1 | with_reducible refine Below.drew ?_ | with_reducible refine below_drewN ?_ _ | with_reducible refine Below.alloc ?_ (by have := hb1.size; first | (simp; done) | (simp; omega) | omega) _ | with_reducible refine Below.setCell ?_ (by first | (simp; done) | (simp; omega) | omega) _)⟩
theorem rverify_all (y E S : Int) (bs : List Int) (a : Option Addr) (n c : Nat) (w : World) (y0 : 0 ≤ y) (y4 : y < 4294967296) (hE0 : 0 ≤ E) (hE4 : E < 4294967296) (hS0 : 0 ≤ S) (hS4 : S < 4294967296) (hm : MsgIn w a n bs) :
    Calls Tryd.prog 11 #[.int .u32 y, .slice a n c, .agg #[.int .u32 E, .int .u32 S]] w fun e w' =>
      e = .returned (.int .i64 (verZ y E S bs)) ∧ Below w.heap.size w w' := by
  unfold verZ
  cases h : isB y with
  | false => exact rverify_no y E S a n c w y0 y4 h
  | true =>
    rw [if_neg (by decide)]
    by_cases hl : 9991 < bs.length
    · rw [if_pos hl]; exact rverify_many y E S a n c w y0 y4 h (hm.len ▸ hl)
    · rw [if_neg hl]
      have hn : n ≤ 9991 := by have := hm.len; omega
      by_cases hb : 500000003 ≤ E ∨ 500000003 ≤ S
      · rw [if_pos hb]; exact rverify_on y E S false a n c w y0 y4 h hn fun w1 _ => rright_big y E S a n c w1 hE0 hE4 hS0 hS4 hb
      · rw [if_neg hb]
        have := rverify_on y E S (chaP (backR y E S) y bs == E) a n c w y0 y4 h hn fun w1 hb1 => rright_go y E S bs a n c w1 h (hm.later hb1) hn hE0 (by omega) hS0 (by omega)
        simpa only [beq_iff_eq] using this

end Go.Proofs.YtdlacedminebdaaDoor
