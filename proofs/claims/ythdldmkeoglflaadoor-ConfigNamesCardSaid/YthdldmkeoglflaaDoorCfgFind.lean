/- slices.BinarySearchFunc by names; named, Public, Find, Who. -/
import Derived.Test.YthdldmkeoglflaaDoorCfgRef
namespace Go.Proofs.YthdldmkeoglflaaDoor
set_option maxRecDepth 100000
set_option linter.unusedSimpArgs false
set_option linter.unusedVariables false
set_option linter.unnecessarySimpa false
open Go.RowKit

theorem cmpstr_any (x y : ByteArray) (w : World) :
    Calls Tryd.prog 95 #[.string x, .string y] w fun e w' =>
      e = .returned (.int .i64 (cmpS x y)) ∧ Below w.heap.size w w' := by
  go_enter Tryd.func95, Tryd.ntmps95
  have hb0 := Below.refl w.heap.size w
  go_wp2_with fail
  rw [run_callFunc_extern Tryd.func114 (by kernel_rfl) (by kernel_rfl) (by kernel_rfl) (e := Extern.BytealgCompare.compare) (by kernel_rfl), Lib.run_compareString]
  simp only [Result.andThen]
  rw [Oper.upon_value]
  go_wp2_with fail
  go_ret
  exact ⟨rfl, (by repeat' (first | with_reducible exact hb0 | with_reducible refine Below.drew ?_ | with_reducible refine below_drewN ?_ _ | with_reducible refine Below.alloc ?_ (by have := hb0.size; first | (simp; done) | (simp; omega) | omega) _ | with_reducible refine Below.setCell ?_ (by first | (simp; done) | (simp; omega) | omega) _))⟩
theorem compare_any (x y : ByteArray) (w : World) :
    Calls Tryd.prog 75 #[.string x, .string y] w fun e w' =>
      e = .returned (.int .i64 (cmpS x y)) ∧ Below w.heap.size w w' := by
  go_enter Tryd.func75, Tryd.ntmps75
  have hb0 := Below.refl w.heap.size w
  go_wp2_with fail
  with_reducible refine (cmpstr_any x y _).mono ?_
  rintro e w1 ⟨rfl, hc1⟩
  have hb1 : Below w.heap.size w w1 := bchain (by repeat' (first | with_reducible exact hb0 | with_reducible refine Below.drew ?_ | with_reducible refine below_drewN ?_ _ | with_reducible refine Below.alloc ?_ (by have := hb0.size; first | (simp; done) | (simp; omega) | omega) _ | with_reducible refine Below.setCell ?_ (by first | (simp; done) | (simp; omega) | omega) _)) hc1
  clear hc1 hb0
  go_wp2_with fail
  go_ret
  exact ⟨rfl, by repeat' (first | with_reducible exact hb1 | with_reducible refine Below.drew ?_ | with_reducible refine below_drewN ?_ _ | with_reducible refine Below.alloc ?_ (by have := hb1.size; first | (simp; done) | (simp; omega) | omega) _ | with_reducible refine Below.setCell ?_ (by first | (simp; done) | (simp; omega) | omega) _)⟩
theorem cmp_any (n : ByteArray) (p : Int) (x : ByteArray) (w : World) :
    Calls Tryd.prog 74 #[.agg #[.string n, .int .u32 p], .string x] w fun e w' =>
      e = .returned (.int .i64 (cmpS n x)) ∧ Below w.heap.size w w' := by
  go_enter Tryd.func74, Tryd.ntmps74
  have hb0 := Below.refl w.heap.size w
  go_wp2_with fail
  with_reducible refine (compare_any n x _).mono ?_
  rintro e w1 ⟨rfl, hc1⟩
  have hb1 : Below w.heap.size w w1 := bchain (by repeat' (first | with_reducible exact hb0 | with_reducible refine Below.drew ?_ | with_reducible refine below_drewN ?_ _ | with_reducible refine Below.alloc ?_ (by have := hb0.size; first | (simp; done) | (simp; omega) | omega) _ | with_reducible refine Below.setCell ?_ (by first | (simp; done) | (simp; omega) | omega) _)) hc1
  clear hc1 hb0
  go_wp2_with fail
  go_ret
  exact ⟨rfl, by repeat' (first | with_reducible exact hb1 | with_reducible refine Below.drew ?_ | with_reducible refine below_drewN ?_ _ | with_reducible refine Below.alloc ?_ (by have := hb1.size; first | (simp; done) | (simp; omega) | omega) _ | with_reducible refine Below.setCell ?_ (by first | (simp; done) | (simp; omega) | omega) _)⟩
theorem ret_ib {a a' : Int} {b b' : Bool} (h1 : a = a') (h2 : b = b') : Ending.returned (.tuple #[.int .i64 a, .bool b]) = .returned (.tuple #[.int .i64 a', .bool b']) := by rw [h1, h2]
set_option maxHeartbeats 2000000 in
theorem search_any (hs : Peers) (a : Option Addr) (c : Nat) (x : ByteArray) (w : World) (hc : CellsAt w a (cel hs)) (hb : hs.length ≤ 8796093022207) (hinc : Inc hs) :
    Calls Tryd.prog 73 #[.slice a hs.length c, .string x, .func (.func 74) #[] #[]] w fun e w' =>
      e = .returned (.tuple #[.int .i64 (lb hs x), .bool (hasN hs x)]) ∧ Below w.heap.size w w' := by
  have Hinc := hid hinc
  have Hc := hid hc
  have hlb := lb_le hs x
  have Hlb := hid hlb
  clear hinc hc hlb
  go_enter Tryd.func73, Tryd.ntmps73
  have hb0 := Below.refl w.heap.size w
  go_wp2_with fail
  go_loopw [9, 10] (fun p q wr => ∃ i j : Nat, i ≤ lb hs x ∧ lb hs x ≤ j ∧ j ≤ hs.length ∧ p = .int .i64 i ∧ q = .int .i64 j ∧ Below w.heap.size w wr) (fun p q _ => (intOf q).toNat - (intOf p).toNat)
  case atStart => exact ⟨0, hs.length, Nat.zero_le _, Hlb.out, Nat.le_refl _, rfl, rfl, (by repeat' (first | with_reducible exact hb0 | with_reducible refine Below.drew ?_ | with_reducible refine below_drewN ?_ _ | with_reducible refine Below.alloc ?_ (by have := hb0.size; first | (simp; done) | (simp; omega) | omega) _ | with_reducible refine Below.setCell ?_ (by first | (simp; done) | (simp; omega) | omega) _))⟩
  case round =>
    obtain ⟨i, j, h5, h6, h7, rfl, rfl, hbw⟩ := hrel
    by_cases hlt : i < j
    · obtain ⟨k, hk⟩ : ∃ k, k = (i + j) / 2 := ⟨_, rfl⟩
      have hki : i ≤ k := by omega
      have hkj : k < j := by omega
      have hkl : k < hs.length := by omega
      have hlt' : (i : Int) < (j : Int) := by omega
      have hkl' : (k : Int) < (hs.length : Int) := by omega
      have hdiv : ((i : Int) + (j : Int)) / 2 = (k : Int) := by omega
      have hiff := lb_iff Hinc.out x k hkl
      obtain ⟨b, oo, rfl, g1, g2, hcell⟩ := Hc.out.peers (by omega)
      obtain ⟨c0, c1⟩ := hcell k hkl
      clear hcell
      replace c0 := cell_later hbw c0
      replace c1 := cell_later hbw c1
      rw [← cmpS_neg] at hiff
      obtain ⟨z, hz⟩ : ∃ z, cmpS (nm hs k) x = z := ⟨_, rfl⟩
      have hcall : ∀ W, Calls Tryd.prog 74 #[.agg #[.string (nm hs k), .int .u32 (pu hs k)], .string x] W fun e w' => e = .returned (.int .i64 z) ∧ Below W.heap.size W w' := fun W => hz ▸ cmp_any (nm hs k) (pu hs k) x W
      rw [hz] at hiff
      clear hz
      have H_hk := hid hk
      have H_hiff := hid hiff
      clear hk hiff
      by_cases hp : z < 0
      · skip
        go_wp2_with fail
        with_reducible refine (hcall _).mono ?_
        rintro e w11 ⟨rfl, hc11⟩
        have hb11 : Below w.heap.size w w11 := bchain (by repeat' (first | with_reducible exact hbw | with_reducible refine Below.drew ?_ | with_reducible refine below_drewN ?_ _ | with_reducible refine Below.alloc ?_ (by have := hbw.size; first | (simp; done) | (simp; omega) | omega) _ | with_reducible refine Below.setCell ?_ (by first | (simp; done) | (simp; omega) | omega) _)) hc11
        clear hc11 hbw
        go_wp2_with fail
        go_roundw
        case rel => exact ⟨k + 1, j, by have := H_hiff.out; omega, h6, h7, by go_num, rfl, (by repeat' (first | with_reducible exact hb11 | with_reducible refine Below.drew ?_ | with_reducible refine below_drewN ?_ _ | with_reducible refine Below.alloc ?_ (by have := hb11.size; first | (simp; done) | (simp; omega) | omega) _ | with_reducible refine Below.setCell ?_ (by first | (simp; done) | (simp; omega) | omega) _))⟩
        case measure => have := H_hk.out; simp [intOf]; omega
      · skip
        go_wp2_with fail
        with_reducible refine (hcall _).mono ?_
        rintro e w11 ⟨rfl, hc11⟩
        have hb11 : Below w.heap.size w w11 := bchain (by repeat' (first | with_reducible exact hbw | with_reducible refine Below.drew ?_ | with_reducible refine below_drewN ?_ _ | with_reducible refine Below.alloc ?_ (by have := hbw.size; first | (simp; done) | (simp; omega) | omega) _ | with_reducible refine Below.setCell ?_ (by first | (simp; done) | (simp; omega) | omega) _)) hc11
        clear hc11 hbw
        go_wp2_with fail
        go_roundw
        case rel => exact ⟨i, k, h5, by have := H_hiff.out; omega, by omega, rfl, rfl, (by repeat' (first | with_reducible exact hb11 | with_reducible refine Below.drew ?_ | with_reducible refine below_drewN ?_ _ | with_reducible refine Below.alloc ?_ (by have := hb11.size; first | (simp; done) | (simp; omega) | omega) _ | with_reducible refine Below.setCell ?_ (by first | (simp; done) | (simp; omega) | omega) _))⟩
        case measure => have := H_hk.out; simp [intOf]; omega
    · obtain rfl : i = j := by omega
      obtain rfl : i = lb hs x := by omega
      have hnlt : ¬ (((lb hs x : Nat) : Int) < ((lb hs x : Nat) : Int)) := by omega
      have hdef : hasN hs x = (decide (lb hs x < hs.length) && seqB (nm hs (lb hs x)) x) := rfl
      by_cases hl : lb hs x < hs.length
      · have hl' : ((lb hs x : Nat) : Int) < (hs.length : Int) := by omega
        obtain ⟨b, oo, rfl, g1, g2, hcell⟩ := Hc.out.peers (by omega)
        obtain ⟨c0, c1⟩ := hcell _ hl
        clear hcell
        replace c0 := cell_later hbw c0
        replace c1 := cell_later hbw c1
        obtain ⟨z, hz⟩ : ∃ z, cmpS (nm hs (lb hs x)) x = z := ⟨_, rfl⟩
        have hz0 : hasN hs x = decide (z = 0) := by
          rw [hdef, decide_eq_true hl, Bool.true_and, Bool.eq_iff_iff, seqB_iff, decide_eq_true_eq, ← hz, cmpS_zero]
        have hcall : ∀ W, Calls Tryd.prog 74 #[.agg #[.string (nm hs (lb hs x)), .int .u32 (pu hs (lb hs x))], .string x] W fun e w' => e = .returned (.int .i64 z) ∧ Below W.heap.size W w' := fun W => hz ▸ cmp_any (nm hs (lb hs x)) (pu hs (lb hs x)) x W
        clear hz hdef
        by_cases hp : z = 0
        · subst hp
          have he : hasN hs x = true := by rw [hz0]; rfl
          have H_he := hid he
          have H_hz0 := hid hz0
          clear he hz0
          go_wp2_with fail
          with_reducible refine (hcall _).mono ?_
          rintro e w11 ⟨rfl, hc11⟩
          have hb11 : Below w.heap.size w w11 := bchain (by repeat' (first | with_reducible exact hbw | with_reducible refine Below.drew ?_ | with_reducible refine below_drewN ?_ _ | with_reducible refine Below.alloc ?_ (by have := hbw.size; first | (simp; done) | (simp; omega) | omega) _ | with_reducible refine Below.setCell ?_ (by first | (simp; done) | (simp; omega) | omega) _)) hc11
          clear hc11 hbw
          go_wp2_with fail
          go_ret2
          exact ⟨ret_ib rfl (by rw [H_he.out]; try rfl), (by repeat' (first | with_reducible exact hb11 | with_reducible refine Below.drew ?_ | with_reducible refine below_drewN ?_ _ | with_reducible refine Below.alloc ?_ (by have := hb11.size; first | (simp; done) | (simp; omega) | omega) _ | with_reducible refine Below.setCell ?_ (by first | (simp; done) | (simp; omega) | omega) _))⟩
        · have he : hasN hs x = false := by rw [hz0, decide_eq_false hp]
          have H_he := hid he
          have H_hz0 := hid hz0
          clear he hz0
          go_wp2_with fail
          with_reducible refine (hcall _).mono ?_
          rintro e w11 ⟨rfl, hc11⟩
          have hb11 : Below w.heap.size w w11 := bchain (by repeat' (first | with_reducible exact hbw | with_reducible refine Below.drew ?_ | with_reducible refine below_drewN ?_ _ | with_reducible refine Below.alloc ?_ (by have := hbw.size; first | (simp; done) | (simp; omega) | omega) _ | with_reducible refine Below.setCell ?_ (by first | (simp; done) | (simp; omega) | omega) _)) hc11
          clear hc11 hbw
          go_wp2_with fail
          go_ret2
          exact ⟨ret_ib rfl (by rw [H_he.out]; try exact beq_eq_false_iff_ne.2 hp), (by repeat' (first | with_reducible exact hb11 | with_reducible refine Below.drew ?_ | with_reducible refine below_drewN ?_ _ | with_reducible refine Below.alloc ?_ (by have := hb11.size; first | (simp; done) | (simp; omega) | omega) _ | with_reducible refine Below.setCell ?_ (by first | (simp; done) | (simp; omega) | omega) _))⟩
      · have he : hasN hs x = false := by rw [hdef, decide_eq_false hl, Bool.false_and]
        have hd : decide (((lb hs x : Nat) : Int) < (hs.length : Int)) = false := decide_eq_false (by omega)
        have hd2 : decide (lb hs x < hs.length) = false := decide_eq_false hl
        have H_he := hid he
        have H_hdef := hid hdef
        clear he hdef
        go_wp2_with fail
        go_ret2
        exact ⟨ret_ib rfl (by rw [H_he.out]), (by repeat' (first | with_reducible exact hbw | with_reducible refine Below.drew ?_ | with_reducible refine below_drewN ?_ _ | with_reducible refine Below.alloc ?_ (by have := hbw.size; first | (simp; done) | (simp; omega) | omega) _ | with_reducible refine Below.setCell ?_ (by first | (simp; done) | (simp; omega) | omega) _))⟩

set_option maxHeartbeats 1000000 in
theorem named_any (l0 l1 l2 l3 l4 l5 l6 l7 l8 : Int) (s : Int) (x : ByteArray) (ps : Peers) (a : Option Addr) (c : Nat) (w : World) (hc : CellsAt w a (cel ps)) (hml : ps.length ≤ 1000000) (hinc : Inc ps) :
    Calls Tryd.prog 47 #[.agg #[.int .i64 l0, .int .i64 l1, .int .i64 l2, .int .i64 l3, .int .i64 l4, .int .i64 l5, .int .i64 l6, .int .i64 l7, .int .i64 l8, .int .u32 s, .slice a ps.length c], .string x] w fun e w' =>
      e = .returned (.tuple #[.int .i64 (lb ps x), .bool (hasN ps x)]) ∧ Below w.heap.size w w' := by
  go_enter Tryd.func47, Tryd.ntmps47
  have hb0 := Below.refl w.heap.size w
  go_wp2_with fail
  with_reducible refine (search_any ps a c x _ (hc.alloc _) (by omega) hinc).mono ?_
  rintro e w1 ⟨rfl, hc1⟩
  have hb1 : Below w.heap.size w w1 := bchain (by repeat' (first | with_reducible exact hb0 | with_reducible refine Below.drew ?_ | with_reducible refine below_drewN ?_ _ | with_reducible refine Below.alloc ?_ (by have := hb0.size; first | (simp; done) | (simp; omega) | omega) _ | with_reducible refine Below.setCell ?_ (by first | (simp; done) | (simp; omega) | omega) _)) hc1
  clear hc1 hb0
  go_wp2_with fail
  go_ret2
  exact ⟨rfl, by repeat' (first | with_reducible exact hb1 | with_reducible refine Below.drew ?_ | with_reducible refine below_drewN ?_ _ | with_reducible refine Below.alloc ?_ (by have := hb1.size; first | (simp; done) | (simp; omega) | omega) _ | with_reducible refine Below.setCell ?_ (by first | (simp; done) | (simp; omega) | omega) _)⟩

/-- What holds of a valid setup. -/
structure CV (L : Lim) (s : Int) (ps : Peers) : Prop where
  fit : fitB L = true
  s1 : 1 ≤ s
  s5 : s < 500000003
  len : ps.length ≤ 8
  ok : (ps.any fun p => !vP p) = false
  inc : Inc ps
  dist : distB (pubK s) ps = true
theorem CV.of {L : Lim} {s : Int} {ps : Peers} (h : chkS L s ps = 0) : CV L s ps := by
  unfold chkS at h
  split at h <;> try (exact absurd h (by omega))
  split at h <;> try (exact absurd h (by omega))
  split at h <;> try (exact absurd h (by omega))
  split at h <;> try (exact absurd h (by omega))
  split at h <;> try (exact absurd h (by omega))
  split at h <;> try (exact absurd h (by omega))
  rename_i h1 h2 h3 h4 h5 h6
  exact ⟨h1, (secB_ok h2).1, (secB_ok h2).2, h3, by simpa using h4, incB_iff.1 h5, h6⟩
theorem CV.err {L : Lim} {s : Int} {ps : Peers} (h : CV L s ps) : chkS L s ps = 0 := by
  refine chk_ok h.fit ?_ h.len h.ok (incB_iff.2 h.inc) h.dist
  unfold secB; rw [decide_eq_true h.s1, decide_eq_true h.s5]; rfl
theorem chk_rng (L : Lim) (s : Int) (ps : Peers) : chkS L s ps = 0 ∨ chkS L s ps = 2 ∨ chkS L s ps = 4 ∨ chkS L s ps = 8 ∨ chkS L s ps = 14 ∨ chkS L s ps = 32 := by
  unfold chkS; (repeat' split) <;> simp
/-- A setup that came in. -/
structure SIn (w : World) (s : Int) (ps : Peers) (a : Option Addr) : Prop where
  s0 : 0 ≤ s
  s4 : s < 4294967296
  cells : CellsAt w a (cel ps)
  keys : Keys ps
  len : ps.length ≤ 1000000
theorem SIn.later {w w' : World} {s : Int} {ps : Peers} {a : Option Addr} (h : SIn w s ps a) (hb : Below w.heap.size w w') : SIn w' s ps a := ⟨h.s0, h.s4, h.cells.later hb, h.keys, h.len⟩
theorem SIn.alloc {w : World} {s : Int} {ps : Peers} {a : Option Addr} (h : SIn w s ps a) (o : Obj) : SIn (w.alloc o) s ps a := ⟨h.s0, h.s4, h.cells.alloc o, h.keys, h.len⟩
theorem SIn.on {w : World} {s : Int} {ps : Peers} {a : Option Addr} (h : SIn w s ps a) (p : Regrown) : SIn (wOn w p) s ps a := ⟨h.s0, h.s4, h.cells.on p, h.keys, h.len⟩
theorem SIn.ml {w : World} {s : Int} {ps : Peers} {a : Option Addr} (h : SIn w s ps a) : ps.length ≤ maxLen := by have := h.len; unfold maxLen; omega

def pubR (E s : Int) : Int := if E = 0 then pubK s else 0
set_option maxHeartbeats 1000000 in
theorem Public_any (l0 l1 l2 l3 l4 l5 l6 l7 l8 : Int) (s : Int) (ps : Peers) (a : Option Addr) (c : Nat) (w : World) (hS : SIn w s ps a) (E : Int) (hE : chkS (⟨l0, l1, l2, l3, l4, l5, l6, l7, l8⟩ : Lim) s ps = E) :
    Calls Tryd.prog 23 #[.agg #[.int .i64 l0, .int .i64 l1, .int .i64 l2, .int .i64 l3, .int .i64 l4, .int .i64 l5, .int .i64 l6, .int .i64 l7, .int .i64 l8, .int .u32 s, .slice a ps.length c]] w fun e w' =>
      e = .returned (.tuple #[.int .u32 (pubR E s), .int .i64 E]) ∧ Below w.heap.size w w' := by
  have hchk := fun W (h : SIn W s ps a) => hE ▸ Check_any l0 l1 l2 l3 l4 l5 l6 l7 l8 s ps a c W h.cells h.s0 h.s4 h.keys h.ml
  by_cases h0 : E = 0
  · subst h0
    have h1 := (CV.of hE).s1
    have h5 := (CV.of hE).s5
    have hr : pubR 0 s = pubK s := rfl
    rw [hr]
    clear hr hE
    go_enter Tryd.func23, Tryd.ntmps23
    have hb0 := Below.refl w.heap.size w
    go_wp2_with fail
    with_reducible refine (hchk _ (hS.alloc _)).mono ?_
    rintro e w1 ⟨rfl, hc1⟩
    have hb1 : Below w.heap.size w w1 := bchain (by repeat' (first | with_reducible exact hb0 | with_reducible refine Below.drew ?_ | with_reducible refine below_drewN ?_ _ | with_reducible refine Below.alloc ?_ (by have := hb0.size; first | (simp; done) | (simp; omega) | omega) _ | with_reducible refine Below.setCell ?_ (by first | (simp; done) | (simp; omega) | omega) _)) hc1
    have X_0 : w1.cell? ⟨w.heap.size, 0, none⟩ = some (.int .i64 l0) := (hc1.cell (p := ⟨w.heap.size, 0, none⟩) (by first | (simp; done) | (simp; omega))).trans (by first | (simp; done) | go_simp)
    have X_1 : w1.cell? ⟨w.heap.size, 1, none⟩ = some (.int .i64 l1) := (hc1.cell (p := ⟨w.heap.size, 1, none⟩) (by first | (simp; done) | (simp; omega))).trans (by first | (simp; done) | go_simp)
    have X_2 : w1.cell? ⟨w.heap.size, 2, none⟩ = some (.int .i64 l2) := (hc1.cell (p := ⟨w.heap.size, 2, none⟩) (by first | (simp; done) | (simp; omega))).trans (by first | (simp; done) | go_simp)
    have X_3 : w1.cell? ⟨w.heap.size, 3, none⟩ = some (.int .i64 l3) := (hc1.cell (p := ⟨w.heap.size, 3, none⟩) (by first | (simp; done) | (simp; omega))).trans (by first | (simp; done) | go_simp)
    have X_4 : w1.cell? ⟨w.heap.size, 4, none⟩ = some (.int .i64 l4) := (hc1.cell (p := ⟨w.heap.size, 4, none⟩) (by first | (simp; done) | (simp; omega))).trans (by first | (simp; done) | go_simp)
    have X_5 : w1.cell? ⟨w.heap.size, 5, none⟩ = some (.int .i64 l5) := (hc1.cell (p := ⟨w.heap.size, 5, none⟩) (by first | (simp; done) | (simp; omega))).trans (by first | (simp; done) | go_simp)
    have X_6 : w1.cell? ⟨w.heap.size, 6, none⟩ = some (.int .i64 l6) := (hc1.cell (p := ⟨w.heap.size, 6, none⟩) (by first | (simp; done) | (simp; omega))).trans (by first | (simp; done) | go_simp)
    have X_7 : w1.cell? ⟨w.heap.size, 7, none⟩ = some (.int .i64 l7) := (hc1.cell (p := ⟨w.heap.size, 7, none⟩) (by first | (simp; done) | (simp; omega))).trans (by first | (simp; done) | go_simp)
    have X_8 : w1.cell? ⟨w.heap.size, 8, none⟩ = some (.int .i64 l8) := (hc1.cell (p := ⟨w.heap.size, 8, none⟩) (by first | (simp; done) | (simp; omega))).trans (by first | (simp; done) | go_simp)
    have X_9 : w1.cell? ⟨w.heap.size, 9, none⟩ = some (.int .u32 s) := (hc1.cell (p := ⟨w.heap.size, 9, none⟩) (by first | (simp; done) | (simp; omega))).trans (by first | (simp; done) | go_simp)
    have X_10 : w1.cell? ⟨w.heap.size, 10, none⟩ = some (.slice a ps.length c) := (hc1.cell (p := ⟨w.heap.size, 10, none⟩) (by first | (simp; done) | (simp; omega))).trans (by first | (simp; done) | go_simp)
    have X_l : w.heap.size < w1.heap.size := Nat.lt_of_lt_of_le (by first | (simp; done) | (simp; omega)) hc1.size
    clear hc1 hb0
    go_wp2_with fail
    with_reducible refine (public_ok s _ h1 h5).mono ?_
    rintro e w2 ⟨rfl, hc2⟩
    have hb2 : Below w.heap.size w w2 := bchain (by repeat' (first | with_reducible exact hb1 | with_reducible refine Below.drew ?_ | with_reducible refine below_drewN ?_ _ | with_reducible refine Below.alloc ?_ (by have := hb1.size; first | (simp; done) | (simp; omega) | omega) _ | with_reducible refine Below.setCell ?_ (by first | (simp; done) | (simp; omega) | omega) _)) hc2
    have hst2 : Below w1.heap.size w1 w2 := bchain (by repeat' (first | with_reducible exact Below.refl _ _ | with_reducible refine Below.drew ?_ | with_reducible refine below_drewN ?_ _ | with_reducible refine Below.alloc ?_ (by first | (simp; done) | (simp; omega) | omega) _ | with_reducible refine Below.setCell ?_ (by first | (simp; done) | (simp; omega) | omega) _)) hc2
    replace X_0 := cell_later hst2 X_0
    replace X_1 := cell_later hst2 X_1
    replace X_2 := cell_later hst2 X_2
    replace X_3 := cell_later hst2 X_3
    replace X_4 := cell_later hst2 X_4
    replace X_5 := cell_later hst2 X_5
    replace X_6 := cell_later hst2 X_6
    replace X_7 := cell_later hst2 X_7
    replace X_8 := cell_later hst2 X_8
    replace X_9 := cell_later hst2 X_9
    replace X_10 := cell_later hst2 X_10
    replace X_l := Nat.lt_of_lt_of_le X_l hst2.size
    clear hst2
    clear hc2 hb1
    go_wp2_with fail
    go_ret2
    exact ⟨rfl, by repeat' (first | with_reducible exact hb2 | with_reducible refine Below.drew ?_ | with_reducible refine below_drewN ?_ _ | with_reducible refine Below.alloc ?_ (by have := hb2.size; first | (simp; done) | (simp; omega) | omega) _ | with_reducible refine Below.setCell ?_ (by first | (simp; done) | (simp; omega) | omega) _)⟩
  · have hr : pubR E s = 0 := if_neg h0
    rw [hr]
    clear hr
    have H_hE := Box.mk hE
    clear hE
    go_enter Tryd.func23, Tryd.ntmps23
    have hb0 := Below.refl w.heap.size w
    go_wp2_with fail
    with_reducible refine (hchk _ (hS.alloc _)).mono ?_
    rintro e w1 ⟨rfl, hc1⟩
    have hb1 : Below w.heap.size w w1 := bchain (by repeat' (first | with_reducible exact hb0 | with_reducible refine Below.drew ?_ | with_reducible refine below_drewN ?_ _ | with_reducible refine Below.alloc ?_ (by have := hb0.size; first | (simp; done) | (simp; omega) | omega) _ | with_reducible refine Below.setCell ?_ (by first | (simp; done) | (simp; omega) | omega) _)) hc1
    have X_0 : w1.cell? ⟨w.heap.size, 0, none⟩ = some (.int .i64 l0) := (hc1.cell (p := ⟨w.heap.size, 0, none⟩) (by first | (simp; done) | (simp; omega))).trans (by first | (simp; done) | go_simp)
    have X_1 : w1.cell? ⟨w.heap.size, 1, none⟩ = some (.int .i64 l1) := (hc1.cell (p := ⟨w.heap.size, 1, none⟩) (by first | (simp; done) | (simp; omega))).trans (by first | (simp; done) | go_simp)
    have X_2 : w1.cell? ⟨w.heap.size, 2, none⟩ = some (.int .i64 l2) := (hc1.cell (p := ⟨w.heap.size, 2, none⟩) (by first | (simp; done) | (simp; omega))).trans (by first | (simp; done) | go_simp)
    have X_3 : w1.cell? ⟨w.heap.size, 3, none⟩ = some (.int .i64 l3) := (hc1.cell (p := ⟨w.heap.size, 3, none⟩) (by first | (simp; done) | (simp; omega))).trans (by first | (simp; done) | go_simp)
    have X_4 : w1.cell? ⟨w.heap.size, 4, none⟩ = some (.int .i64 l4) := (hc1.cell (p := ⟨w.heap.size, 4, none⟩) (by first | (simp; done) | (simp; omega))).trans (by first | (simp; done) | go_simp)
    have X_5 : w1.cell? ⟨w.heap.size, 5, none⟩ = some (.int .i64 l5) := (hc1.cell (p := ⟨w.heap.size, 5, none⟩) (by first | (simp; done) | (simp; omega))).trans (by first | (simp; done) | go_simp)
    have X_6 : w1.cell? ⟨w.heap.size, 6, none⟩ = some (.int .i64 l6) := (hc1.cell (p := ⟨w.heap.size, 6, none⟩) (by first | (simp; done) | (simp; omega))).trans (by first | (simp; done) | go_simp)
    have X_7 : w1.cell? ⟨w.heap.size, 7, none⟩ = some (.int .i64 l7) := (hc1.cell (p := ⟨w.heap.size, 7, none⟩) (by first | (simp; done) | (simp; omega))).trans (by first | (simp; done) | go_simp)
    have X_8 : w1.cell? ⟨w.heap.size, 8, none⟩ = some (.int .i64 l8) := (hc1.cell (p := ⟨w.heap.size, 8, none⟩) (by first | (simp; done) | (simp; omega))).trans (by first | (simp; done) | go_simp)
    have X_9 : w1.cell? ⟨w.heap.size, 9, none⟩ = some (.int .u32 s) := (hc1.cell (p := ⟨w.heap.size, 9, none⟩) (by first | (simp; done) | (simp; omega))).trans (by first | (simp; done) | go_simp)
    have X_10 : w1.cell? ⟨w.heap.size, 10, none⟩ = some (.slice a ps.length c) := (hc1.cell (p := ⟨w.heap.size, 10, none⟩) (by first | (simp; done) | (simp; omega))).trans (by first | (simp; done) | go_simp)
    have X_l : w.heap.size < w1.heap.size := Nat.lt_of_lt_of_le (by first | (simp; done) | (simp; omega)) hc1.size
    clear hc1 hb0
    go_wp2_with fail
    go_ret2
    exact ⟨rfl, (by repeat' (first | with_reducible exact hb1 | with_reducible refine Below.drew ?_ | with_reducible refine below_drewN ?_ _ | with_reducible refine Below.alloc ?_ (by have := hb1.size; first | (simp; done) | (simp; omega) | omega) _ | with_reducible refine Below.setCell ?_ (by first | (simp; done) | (simp; omega) | omega) _))⟩
def findR (E : Int) (ps : Peers) (x : ByteArray) : Int × Int := if E = 0 then (if hasN ps x then (pu ps (lb ps x), 0) else (0, 6)) else (0, E)
def RetUI (e : Ending) (r : Int × Int) : Prop := e = .returned (.tuple #[.int .u32 r.1, .int .i64 r.2])
theorem RetUI.of {e : Ending} {r r' : Int × Int} (h : RetUI e r) (h' : r = r') : RetUI e r' := h' ▸ h
set_option maxHeartbeats 1000000 in
theorem Find_any (l0 l1 l2 l3 l4 l5 l6 l7 l8 : Int) (s : Int) (x : ByteArray) (ps : Peers) (a : Option Addr) (c : Nat) (w : World) (hS : SIn w s ps a) (E : Int) (hE : chkS (⟨l0, l1, l2, l3, l4, l5, l6, l7, l8⟩ : Lim) s ps = E) :
    Calls Tryd.prog 19 #[.agg #[.int .i64 l0, .int .i64 l1, .int .i64 l2, .int .i64 l3, .int .i64 l4, .int .i64 l5, .int .i64 l6, .int .i64 l7, .int .i64 l8, .int .u32 s, .slice a ps.length c], .string x] w fun e w' =>
      RetUI e (findR E ps x) ∧ Below w.heap.size w w' := by
  have hchk := fun W (h : SIn W s ps a) => hE ▸ Check_any l0 l1 l2 l3 l4 l5 l6 l7 l8 s ps a c W h.cells h.s0 h.s4 h.keys h.ml
  by_cases h0 : E = 0
  · subst h0
    have hinc := (CV.of hE).inc
    have hnm := fun W (h : SIn W s ps a) => named_any l0 l1 l2 l3 l4 l5 l6 l7 l8 s x ps a c W h.cells h.len hinc
    clear hE hinc
    cases hh : hasN ps x with
    | true =>
      have hr : (pu ps (lb ps x), 0) = findR 0 ps x := by unfold findR; rw [if_pos rfl, hh]; rfl
      have hlt := (hasN_iff.1 hh).1
      rw [hh] at hnm
      obtain ⟨k, hk⟩ : ∃ k, lb ps x = k := ⟨_, rfl⟩
      simp only [hk] at hnm
      rw [hk] at hlt hr
      clear hk
      have hlt' : (k : Int) < (ps.length : Int) := by omega
      have H_hr := Box.mk hr
      have H_hh := Box.mk hh
      clear hr hh
      go_enter Tryd.func19, Tryd.ntmps19
      have hb0 := Below.refl w.heap.size w
      go_wp2_with fail
      with_reducible refine (hchk _ (hS.alloc _)).mono ?_
      rintro e w1 ⟨rfl, hc1⟩
      have hb1 : Below w.heap.size w w1 := bchain (by repeat' (first | with_reducible exact hb0 | with_reducible refine Below.drew ?_ | with_reducible refine below_drewN ?_ _ | with_reducible refine Below.alloc ?_ (by have := hb0.size; first | (simp; done) | (simp; omega) | omega) _ | with_reducible refine Below.setCell ?_ (by first | (simp; done) | (simp; omega) | omega) _)) hc1
      have hst1 : Below w.heap.size w w1 := bchain (by repeat' (first | with_reducible exact Below.refl _ _ | with_reducible refine Below.drew ?_ | with_reducible refine below_drewN ?_ _ | with_reducible refine Below.alloc ?_ (by first | (simp; done) | (simp; omega) | omega) _ | with_reducible refine Below.setCell ?_ (by first | (simp; done) | (simp; omega) | omega) _)) hc1
      have X_0 : w1.cell? ⟨w.heap.size, 0, none⟩ = some (.int .i64 l0) := (hc1.cell (p := ⟨w.heap.size, 0, none⟩) (by first | (simp; done) | (simp; omega))).trans (by first | (simp; done) | go_simp)
      have X_1 : w1.cell? ⟨w.heap.size, 1, none⟩ = some (.int .i64 l1) := (hc1.cell (p := ⟨w.heap.size, 1, none⟩) (by first | (simp; done) | (simp; omega))).trans (by first | (simp; done) | go_simp)
      have X_2 : w1.cell? ⟨w.heap.size, 2, none⟩ = some (.int .i64 l2) := (hc1.cell (p := ⟨w.heap.size, 2, none⟩) (by first | (simp; done) | (simp; omega))).trans (by first | (simp; done) | go_simp)
      have X_3 : w1.cell? ⟨w.heap.size, 3, none⟩ = some (.int .i64 l3) := (hc1.cell (p := ⟨w.heap.size, 3, none⟩) (by first | (simp; done) | (simp; omega))).trans (by first | (simp; done) | go_simp)
      have X_4 : w1.cell? ⟨w.heap.size, 4, none⟩ = some (.int .i64 l4) := (hc1.cell (p := ⟨w.heap.size, 4, none⟩) (by first | (simp; done) | (simp; omega))).trans (by first | (simp; done) | go_simp)
      have X_5 : w1.cell? ⟨w.heap.size, 5, none⟩ = some (.int .i64 l5) := (hc1.cell (p := ⟨w.heap.size, 5, none⟩) (by first | (simp; done) | (simp; omega))).trans (by first | (simp; done) | go_simp)
      have X_6 : w1.cell? ⟨w.heap.size, 6, none⟩ = some (.int .i64 l6) := (hc1.cell (p := ⟨w.heap.size, 6, none⟩) (by first | (simp; done) | (simp; omega))).trans (by first | (simp; done) | go_simp)
      have X_7 : w1.cell? ⟨w.heap.size, 7, none⟩ = some (.int .i64 l7) := (hc1.cell (p := ⟨w.heap.size, 7, none⟩) (by first | (simp; done) | (simp; omega))).trans (by first | (simp; done) | go_simp)
      have X_8 : w1.cell? ⟨w.heap.size, 8, none⟩ = some (.int .i64 l8) := (hc1.cell (p := ⟨w.heap.size, 8, none⟩) (by first | (simp; done) | (simp; omega))).trans (by first | (simp; done) | go_simp)
      have X_9 : w1.cell? ⟨w.heap.size, 9, none⟩ = some (.int .u32 s) := (hc1.cell (p := ⟨w.heap.size, 9, none⟩) (by first | (simp; done) | (simp; omega))).trans (by first | (simp; done) | go_simp)
      have X_10 : w1.cell? ⟨w.heap.size, 10, none⟩ = some (.slice a ps.length c) := (hc1.cell (p := ⟨w.heap.size, 10, none⟩) (by first | (simp; done) | (simp; omega))).trans (by first | (simp; done) | go_simp)
      have X_l : w.heap.size < w1.heap.size := Nat.lt_of_lt_of_le (by first | (simp; done) | (simp; omega)) hc1.size
      replace hS := hS.later hst1
      clear hst1
      clear hc1 hb0
      go_wp2_with fail
      with_reducible refine (hnm _ hS).mono ?_
      rintro e w2 ⟨rfl, hc2⟩
      have hb2 : Below w.heap.size w w2 := bchain (by repeat' (first | with_reducible exact hb1 | with_reducible refine Below.drew ?_ | with_reducible refine below_drewN ?_ _ | with_reducible refine Below.alloc ?_ (by have := hb1.size; first | (simp; done) | (simp; omega) | omega) _ | with_reducible refine Below.setCell ?_ (by first | (simp; done) | (simp; omega) | omega) _)) hc2
      have hst2 : Below w1.heap.size w1 w2 := bchain (by repeat' (first | with_reducible exact Below.refl _ _ | with_reducible refine Below.drew ?_ | with_reducible refine below_drewN ?_ _ | with_reducible refine Below.alloc ?_ (by first | (simp; done) | (simp; omega) | omega) _ | with_reducible refine Below.setCell ?_ (by first | (simp; done) | (simp; omega) | omega) _)) hc2
      replace X_0 := cell_later hst2 X_0
      replace X_1 := cell_later hst2 X_1
      replace X_2 := cell_later hst2 X_2
      replace X_3 := cell_later hst2 X_3
      replace X_4 := cell_later hst2 X_4
      replace X_5 := cell_later hst2 X_5
      replace X_6 := cell_later hst2 X_6
      replace X_7 := cell_later hst2 X_7
      replace X_8 := cell_later hst2 X_8
      replace X_9 := cell_later hst2 X_9
      replace X_10 := cell_later hst2 X_10
      replace X_l := Nat.lt_of_lt_of_le X_l hst2.size
      replace hS := hS.later hst2
      clear hst2
      clear hc2 hb1
      obtain ⟨b, oo, rfl, g1, g2, hcell⟩ := hS.cells.peers (by omega)
      have c1 := (hcell k hlt).2
      clear hcell
      go_wp2_with fail
      go_ret2
      exact ⟨by rw [← H_hr.out]; exact rfl, (by repeat' (first | with_reducible exact hb2 | with_reducible refine Below.drew ?_ | with_reducible refine below_drewN ?_ _ | with_reducible refine Below.alloc ?_ (by have := hb2.size; first | (simp; done) | (simp; omega) | omega) _ | with_reducible refine Below.setCell ?_ (by first | (simp; done) | (simp; omega) | omega) _))⟩
    | false =>
      have hr : (0, 6) = findR 0 ps x := by unfold findR; rw [if_pos rfl, hh]; rfl
      rw [hh] at hnm
      have H_hr := Box.mk hr
      have H_hh := Box.mk hh
      clear hr hh
      go_enter Tryd.func19, Tryd.ntmps19
      have hb0 := Below.refl w.heap.size w
      go_wp2_with fail
      with_reducible refine (hchk _ (hS.alloc _)).mono ?_
      rintro e w1 ⟨rfl, hc1⟩
      have hb1 : Below w.heap.size w w1 := bchain (by repeat' (first | with_reducible exact hb0 | with_reducible refine Below.drew ?_ | with_reducible refine below_drewN ?_ _ | with_reducible refine Below.alloc ?_ (by have := hb0.size; first | (simp; done) | (simp; omega) | omega) _ | with_reducible refine Below.setCell ?_ (by first | (simp; done) | (simp; omega) | omega) _)) hc1
      have hst1 : Below w.heap.size w w1 := bchain (by repeat' (first | with_reducible exact Below.refl _ _ | with_reducible refine Below.drew ?_ | with_reducible refine below_drewN ?_ _ | with_reducible refine Below.alloc ?_ (by first | (simp; done) | (simp; omega) | omega) _ | with_reducible refine Below.setCell ?_ (by first | (simp; done) | (simp; omega) | omega) _)) hc1
      have X_0 : w1.cell? ⟨w.heap.size, 0, none⟩ = some (.int .i64 l0) := (hc1.cell (p := ⟨w.heap.size, 0, none⟩) (by first | (simp; done) | (simp; omega))).trans (by first | (simp; done) | go_simp)
      have X_1 : w1.cell? ⟨w.heap.size, 1, none⟩ = some (.int .i64 l1) := (hc1.cell (p := ⟨w.heap.size, 1, none⟩) (by first | (simp; done) | (simp; omega))).trans (by first | (simp; done) | go_simp)
      have X_2 : w1.cell? ⟨w.heap.size, 2, none⟩ = some (.int .i64 l2) := (hc1.cell (p := ⟨w.heap.size, 2, none⟩) (by first | (simp; done) | (simp; omega))).trans (by first | (simp; done) | go_simp)
      have X_3 : w1.cell? ⟨w.heap.size, 3, none⟩ = some (.int .i64 l3) := (hc1.cell (p := ⟨w.heap.size, 3, none⟩) (by first | (simp; done) | (simp; omega))).trans (by first | (simp; done) | go_simp)
      have X_4 : w1.cell? ⟨w.heap.size, 4, none⟩ = some (.int .i64 l4) := (hc1.cell (p := ⟨w.heap.size, 4, none⟩) (by first | (simp; done) | (simp; omega))).trans (by first | (simp; done) | go_simp)
      have X_5 : w1.cell? ⟨w.heap.size, 5, none⟩ = some (.int .i64 l5) := (hc1.cell (p := ⟨w.heap.size, 5, none⟩) (by first | (simp; done) | (simp; omega))).trans (by first | (simp; done) | go_simp)
      have X_6 : w1.cell? ⟨w.heap.size, 6, none⟩ = some (.int .i64 l6) := (hc1.cell (p := ⟨w.heap.size, 6, none⟩) (by first | (simp; done) | (simp; omega))).trans (by first | (simp; done) | go_simp)
      have X_7 : w1.cell? ⟨w.heap.size, 7, none⟩ = some (.int .i64 l7) := (hc1.cell (p := ⟨w.heap.size, 7, none⟩) (by first | (simp; done) | (simp; omega))).trans (by first | (simp; done) | go_simp)
      have X_8 : w1.cell? ⟨w.heap.size, 8, none⟩ = some (.int .i64 l8) := (hc1.cell (p := ⟨w.heap.size, 8, none⟩) (by first | (simp; done) | (simp; omega))).trans (by first | (simp; done) | go_simp)
      have X_9 : w1.cell? ⟨w.heap.size, 9, none⟩ = some (.int .u32 s) := (hc1.cell (p := ⟨w.heap.size, 9, none⟩) (by first | (simp; done) | (simp; omega))).trans (by first | (simp; done) | go_simp)
      have X_10 : w1.cell? ⟨w.heap.size, 10, none⟩ = some (.slice a ps.length c) := (hc1.cell (p := ⟨w.heap.size, 10, none⟩) (by first | (simp; done) | (simp; omega))).trans (by first | (simp; done) | go_simp)
      have X_l : w.heap.size < w1.heap.size := Nat.lt_of_lt_of_le (by first | (simp; done) | (simp; omega)) hc1.size
      replace hS := hS.later hst1
      clear hst1
      clear hc1 hb0
      go_wp2_with fail
      with_reducible refine (hnm _ hS).mono ?_
      rintro e w2 ⟨rfl, hc2⟩
      have hb2 : Below w.heap.size w w2 := bchain (by repeat' (first | with_reducible exact hb1 | with_reducible refine Below.drew ?_ | with_reducible refine below_drewN ?_ _ | with_reducible refine Below.alloc ?_ (by have := hb1.size; first | (simp; done) | (simp; omega) | omega) _ | with_reducible refine Below.setCell ?_ (by first | (simp; done) | (simp; omega) | omega) _)) hc2
      have hst2 : Below w1.heap.size w1 w2 := bchain (by repeat' (first | with_reducible exact Below.refl _ _ | with_reducible refine Below.drew ?_ | with_reducible refine below_drewN ?_ _ | with_reducible refine Below.alloc ?_ (by first | (simp; done) | (simp; omega) | omega) _ | with_reducible refine Below.setCell ?_ (by first | (simp; done) | (simp; omega) | omega) _)) hc2
      replace X_0 := cell_later hst2 X_0
      replace X_1 := cell_later hst2 X_1
      replace X_2 := cell_later hst2 X_2
      replace X_3 := cell_later hst2 X_3
      replace X_4 := cell_later hst2 X_4
      replace X_5 := cell_later hst2 X_5
      replace X_6 := cell_later hst2 X_6
      replace X_7 := cell_later hst2 X_7
      replace X_8 := cell_later hst2 X_8
      replace X_9 := cell_later hst2 X_9
      replace X_10 := cell_later hst2 X_10
      replace X_l := Nat.lt_of_lt_of_le X_l hst2.size
      replace hS := hS.later hst2
      clear hst2
      clear hc2 hb1
      go_wp2_with fail
      go_ret2
      exact ⟨by rw [← H_hr.out]; exact rfl, (by repeat' (first | with_reducible exact hb2 | with_reducible refine Below.drew ?_ | with_reducible refine below_drewN ?_ _ | with_reducible refine Below.alloc ?_ (by have := hb2.size; first | (simp; done) | (simp; omega) | omega) _ | with_reducible refine Below.setCell ?_ (by first | (simp; done) | (simp; omega) | omega) _))⟩
  · have hr : (0, E) = findR E ps x := by unfold findR; rw [if_neg h0]
    have H_hE := Box.mk hE
    have H_hr := Box.mk hr
    clear hE hr
    go_enter Tryd.func19, Tryd.ntmps19
    have hb0 := Below.refl w.heap.size w
    go_wp2_with fail
    with_reducible refine (hchk _ (hS.alloc _)).mono ?_
    rintro e w1 ⟨rfl, hc1⟩
    have hb1 : Below w.heap.size w w1 := bchain (by repeat' (first | with_reducible exact hb0 | with_reducible refine Below.drew ?_ | with_reducible refine below_drewN ?_ _ | with_reducible refine Below.alloc ?_ (by have := hb0.size; first | (simp; done) | (simp; omega) | omega) _ | with_reducible refine Below.setCell ?_ (by first | (simp; done) | (simp; omega) | omega) _)) hc1
    have X_0 : w1.cell? ⟨w.heap.size, 0, none⟩ = some (.int .i64 l0) := (hc1.cell (p := ⟨w.heap.size, 0, none⟩) (by first | (simp; done) | (simp; omega))).trans (by first | (simp; done) | go_simp)
    have X_1 : w1.cell? ⟨w.heap.size, 1, none⟩ = some (.int .i64 l1) := (hc1.cell (p := ⟨w.heap.size, 1, none⟩) (by first | (simp; done) | (simp; omega))).trans (by first | (simp; done) | go_simp)
    have X_2 : w1.cell? ⟨w.heap.size, 2, none⟩ = some (.int .i64 l2) := (hc1.cell (p := ⟨w.heap.size, 2, none⟩) (by first | (simp; done) | (simp; omega))).trans (by first | (simp; done) | go_simp)
    have X_3 : w1.cell? ⟨w.heap.size, 3, none⟩ = some (.int .i64 l3) := (hc1.cell (p := ⟨w.heap.size, 3, none⟩) (by first | (simp; done) | (simp; omega))).trans (by first | (simp; done) | go_simp)
    have X_4 : w1.cell? ⟨w.heap.size, 4, none⟩ = some (.int .i64 l4) := (hc1.cell (p := ⟨w.heap.size, 4, none⟩) (by first | (simp; done) | (simp; omega))).trans (by first | (simp; done) | go_simp)
    have X_5 : w1.cell? ⟨w.heap.size, 5, none⟩ = some (.int .i64 l5) := (hc1.cell (p := ⟨w.heap.size, 5, none⟩) (by first | (simp; done) | (simp; omega))).trans (by first | (simp; done) | go_simp)
    have X_6 : w1.cell? ⟨w.heap.size, 6, none⟩ = some (.int .i64 l6) := (hc1.cell (p := ⟨w.heap.size, 6, none⟩) (by first | (simp; done) | (simp; omega))).trans (by first | (simp; done) | go_simp)
    have X_7 : w1.cell? ⟨w.heap.size, 7, none⟩ = some (.int .i64 l7) := (hc1.cell (p := ⟨w.heap.size, 7, none⟩) (by first | (simp; done) | (simp; omega))).trans (by first | (simp; done) | go_simp)
    have X_8 : w1.cell? ⟨w.heap.size, 8, none⟩ = some (.int .i64 l8) := (hc1.cell (p := ⟨w.heap.size, 8, none⟩) (by first | (simp; done) | (simp; omega))).trans (by first | (simp; done) | go_simp)
    have X_9 : w1.cell? ⟨w.heap.size, 9, none⟩ = some (.int .u32 s) := (hc1.cell (p := ⟨w.heap.size, 9, none⟩) (by first | (simp; done) | (simp; omega))).trans (by first | (simp; done) | go_simp)
    have X_10 : w1.cell? ⟨w.heap.size, 10, none⟩ = some (.slice a ps.length c) := (hc1.cell (p := ⟨w.heap.size, 10, none⟩) (by first | (simp; done) | (simp; omega))).trans (by first | (simp; done) | go_simp)
    have X_l : w.heap.size < w1.heap.size := Nat.lt_of_lt_of_le (by first | (simp; done) | (simp; omega)) hc1.size
    clear hc1 hb0
    go_wp2_with fail
    go_ret2
    exact ⟨by rw [← H_hr.out]; exact rfl, (by repeat' (first | with_reducible exact hb1 | with_reducible refine Below.drew ?_ | with_reducible refine below_drewN ?_ _ | with_reducible refine Below.alloc ?_ (by have := hb1.size; first | (simp; done) | (simp; omega) | omega) _ | with_reducible refine Below.setCell ?_ (by first | (simp; done) | (simp; omega) | omega) _))⟩

/-- slices.IndexFunc by a key, as pi has it. -/
theorem idx_pi (ps : Peers) (q : Int) : idxI (fun p => p.2 == q) ps = if pi ps q < ps.length then (pi ps q : Int) else -1 := rfl
def whoR (K E : Int) (ps : Peers) (q : Int) : ByteArray × Int := if E = 0 then (if K = q then (⟨#[]⟩, 0) else (if pi ps q < ps.length then (nm ps (pi ps q), 0) else (⟨#[]⟩, 6))) else (⟨#[]⟩, E)
def RetSI (e : Ending) (r : ByteArray × Int) : Prop := e = .returned (.tuple #[.string r.1, .int .i64 r.2])
set_option maxHeartbeats 1000000 in
theorem Who_any (l0 l1 l2 l3 l4 l5 l6 l7 l8 : Int) (s q : Int) (ps : Peers) (a : Option Addr) (c : Nat) (w : World) (hS : SIn w s ps a) (E : Int) (hE : chkS (⟨l0, l1, l2, l3, l4, l5, l6, l7, l8⟩ : Lim) s ps = E) :
    Calls Tryd.prog 20 #[.agg #[.int .i64 l0, .int .i64 l1, .int .i64 l2, .int .i64 l3, .int .i64 l4, .int .i64 l5, .int .i64 l6, .int .i64 l7, .int .i64 l8, .int .u32 s, .slice a ps.length c], .int .u32 q] w fun e w' =>
      RetSI e (whoR (pubK s) E ps q) ∧ Below w.heap.size w w' := by
  have hpub := fun W (h : SIn W s ps a) => Public_any l0 l1 l2 l3 l4 l5 l6 l7 l8 s ps a c W h E hE
  obtain ⟨K, hK⟩ : ∃ K, pubK s = K := ⟨_, rfl⟩
  by_cases h0 : E = 0
  · subst h0
    have hp : pubR 0 s = K := hK
    simp only [hp] at hpub
    rw [hK]
    clear hK hp hE
    by_cases hKq : K = q
    · have hr : (⟨#[]⟩, 0) = whoR K 0 ps q := by unfold whoR; rw [if_pos rfl, if_pos hKq]
      have H_hr := Box.mk hr
      clear hr
      subst hKq
      go_enter Tryd.func20, Tryd.ntmps20
      have hb0 := Below.refl w.heap.size w
      go_wp2_with fail
      with_reducible refine (hpub _ ((hS.alloc _).alloc _)).mono ?_
      rintro e w1 ⟨rfl, hc1⟩
      have hb1 : Below w.heap.size w w1 := bchain (by repeat' (first | with_reducible exact hb0 | with_reducible refine Below.drew ?_ | with_reducible refine below_drewN ?_ _ | with_reducible refine Below.alloc ?_ (by have := hb0.size; first | (simp; done) | (simp; omega) | omega) _ | with_reducible refine Below.setCell ?_ (by first | (simp; done) | (simp; omega) | omega) _)) hc1
      have X_0 : w1.cell? ⟨w.heap.size, 0, none⟩ = some (.int .i64 l0) := (hc1.cell (p := ⟨w.heap.size, 0, none⟩) (by first | (simp; done) | (simp; omega))).trans (by first | (simp; done) | go_simp)
      have X_1 : w1.cell? ⟨w.heap.size, 1, none⟩ = some (.int .i64 l1) := (hc1.cell (p := ⟨w.heap.size, 1, none⟩) (by first | (simp; done) | (simp; omega))).trans (by first | (simp; done) | go_simp)
      have X_2 : w1.cell? ⟨w.heap.size, 2, none⟩ = some (.int .i64 l2) := (hc1.cell (p := ⟨w.heap.size, 2, none⟩) (by first | (simp; done) | (simp; omega))).trans (by first | (simp; done) | go_simp)
      have X_3 : w1.cell? ⟨w.heap.size, 3, none⟩ = some (.int .i64 l3) := (hc1.cell (p := ⟨w.heap.size, 3, none⟩) (by first | (simp; done) | (simp; omega))).trans (by first | (simp; done) | go_simp)
      have X_4 : w1.cell? ⟨w.heap.size, 4, none⟩ = some (.int .i64 l4) := (hc1.cell (p := ⟨w.heap.size, 4, none⟩) (by first | (simp; done) | (simp; omega))).trans (by first | (simp; done) | go_simp)
      have X_5 : w1.cell? ⟨w.heap.size, 5, none⟩ = some (.int .i64 l5) := (hc1.cell (p := ⟨w.heap.size, 5, none⟩) (by first | (simp; done) | (simp; omega))).trans (by first | (simp; done) | go_simp)
      have X_6 : w1.cell? ⟨w.heap.size, 6, none⟩ = some (.int .i64 l6) := (hc1.cell (p := ⟨w.heap.size, 6, none⟩) (by first | (simp; done) | (simp; omega))).trans (by first | (simp; done) | go_simp)
      have X_7 : w1.cell? ⟨w.heap.size, 7, none⟩ = some (.int .i64 l7) := (hc1.cell (p := ⟨w.heap.size, 7, none⟩) (by first | (simp; done) | (simp; omega))).trans (by first | (simp; done) | go_simp)
      have X_8 : w1.cell? ⟨w.heap.size, 8, none⟩ = some (.int .i64 l8) := (hc1.cell (p := ⟨w.heap.size, 8, none⟩) (by first | (simp; done) | (simp; omega))).trans (by first | (simp; done) | go_simp)
      have X_9 : w1.cell? ⟨w.heap.size, 9, none⟩ = some (.int .u32 s) := (hc1.cell (p := ⟨w.heap.size, 9, none⟩) (by first | (simp; done) | (simp; omega))).trans (by first | (simp; done) | go_simp)
      have X_10 : w1.cell? ⟨w.heap.size, 10, none⟩ = some (.slice a ps.length c) := (hc1.cell (p := ⟨w.heap.size, 10, none⟩) (by first | (simp; done) | (simp; omega))).trans (by first | (simp; done) | go_simp)
      have X_l : w.heap.size < w1.heap.size := Nat.lt_of_lt_of_le (by first | (simp; done) | (simp; omega)) hc1.size
      have Q_0 : w1.cell? ⟨w.heap.size + 1, 0, none⟩ = some (.int .u32 K) := (hc1.cell (p := ⟨w.heap.size + 1, 0, none⟩) (by first | (simp; done) | (simp; omega))).trans (by first | (simp; done) | go_simp)
      have Q_l : w.heap.size + 1 < w1.heap.size := Nat.lt_of_lt_of_le (by first | (simp; done) | (simp; omega)) hc1.size
      clear hc1 hb0
      go_wp2_with fail
      go_ret2
      exact ⟨by rw [← H_hr.out]; exact rfl, (by repeat' (first | with_reducible exact hb1 | with_reducible refine Below.drew ?_ | with_reducible refine below_drewN ?_ _ | with_reducible refine Below.alloc ?_ (by have := hb1.size; first | (simp; done) | (simp; omega) | omega) _ | with_reducible refine Below.setCell ?_ (by first | (simp; done) | (simp; omega) | omega) _))⟩
    · have hKq' : (K == q) = false := beq_eq_false_iff_ne.2 hKq
      have hidx := fun B W (h : SIn W s ps a) h1 h2 => idx_pi ps q ▸ idxP_any q B ps a c W h.cells h.ml h1 h2
      by_cases hlt : pi ps q < ps.length
      · have hr : (nm ps (pi ps q), 0) = whoR K 0 ps q := by unfold whoR; rw [if_pos rfl, if_neg hKq, if_pos hlt]
        simp only [if_pos hlt] at hidx
        obtain ⟨k, hk⟩ : ∃ k, pi ps q = k := ⟨_, rfl⟩
        simp only [hk] at hidx
        rw [hk] at hlt hr
        clear hk
        have hlt' : (k : Int) < (ps.length : Int) := by omega
        have H_hr := Box.mk hr
        clear hr
        go_enter Tryd.func20, Tryd.ntmps20
        have hb0 := Below.refl w.heap.size w
        go_wp2_with fail
        with_reducible refine (hpub _ ((hS.alloc _).alloc _)).mono ?_
        rintro e w1 ⟨rfl, hc1⟩
        have hb1 : Below w.heap.size w w1 := bchain (by repeat' (first | with_reducible exact hb0 | with_reducible refine Below.drew ?_ | with_reducible refine below_drewN ?_ _ | with_reducible refine Below.alloc ?_ (by have := hb0.size; first | (simp; done) | (simp; omega) | omega) _ | with_reducible refine Below.setCell ?_ (by first | (simp; done) | (simp; omega) | omega) _)) hc1
        have hst1 : Below w.heap.size w w1 := bchain (by repeat' (first | with_reducible exact Below.refl _ _ | with_reducible refine Below.drew ?_ | with_reducible refine below_drewN ?_ _ | with_reducible refine Below.alloc ?_ (by first | (simp; done) | (simp; omega) | omega) _ | with_reducible refine Below.setCell ?_ (by first | (simp; done) | (simp; omega) | omega) _)) hc1
        have X_0 : w1.cell? ⟨w.heap.size, 0, none⟩ = some (.int .i64 l0) := (hc1.cell (p := ⟨w.heap.size, 0, none⟩) (by first | (simp; done) | (simp; omega))).trans (by first | (simp; done) | go_simp)
        have X_1 : w1.cell? ⟨w.heap.size, 1, none⟩ = some (.int .i64 l1) := (hc1.cell (p := ⟨w.heap.size, 1, none⟩) (by first | (simp; done) | (simp; omega))).trans (by first | (simp; done) | go_simp)
        have X_2 : w1.cell? ⟨w.heap.size, 2, none⟩ = some (.int .i64 l2) := (hc1.cell (p := ⟨w.heap.size, 2, none⟩) (by first | (simp; done) | (simp; omega))).trans (by first | (simp; done) | go_simp)
        have X_3 : w1.cell? ⟨w.heap.size, 3, none⟩ = some (.int .i64 l3) := (hc1.cell (p := ⟨w.heap.size, 3, none⟩) (by first | (simp; done) | (simp; omega))).trans (by first | (simp; done) | go_simp)
        have X_4 : w1.cell? ⟨w.heap.size, 4, none⟩ = some (.int .i64 l4) := (hc1.cell (p := ⟨w.heap.size, 4, none⟩) (by first | (simp; done) | (simp; omega))).trans (by first | (simp; done) | go_simp)
        have X_5 : w1.cell? ⟨w.heap.size, 5, none⟩ = some (.int .i64 l5) := (hc1.cell (p := ⟨w.heap.size, 5, none⟩) (by first | (simp; done) | (simp; omega))).trans (by first | (simp; done) | go_simp)
        have X_6 : w1.cell? ⟨w.heap.size, 6, none⟩ = some (.int .i64 l6) := (hc1.cell (p := ⟨w.heap.size, 6, none⟩) (by first | (simp; done) | (simp; omega))).trans (by first | (simp; done) | go_simp)
        have X_7 : w1.cell? ⟨w.heap.size, 7, none⟩ = some (.int .i64 l7) := (hc1.cell (p := ⟨w.heap.size, 7, none⟩) (by first | (simp; done) | (simp; omega))).trans (by first | (simp; done) | go_simp)
        have X_8 : w1.cell? ⟨w.heap.size, 8, none⟩ = some (.int .i64 l8) := (hc1.cell (p := ⟨w.heap.size, 8, none⟩) (by first | (simp; done) | (simp; omega))).trans (by first | (simp; done) | go_simp)
        have X_9 : w1.cell? ⟨w.heap.size, 9, none⟩ = some (.int .u32 s) := (hc1.cell (p := ⟨w.heap.size, 9, none⟩) (by first | (simp; done) | (simp; omega))).trans (by first | (simp; done) | go_simp)
        have X_10 : w1.cell? ⟨w.heap.size, 10, none⟩ = some (.slice a ps.length c) := (hc1.cell (p := ⟨w.heap.size, 10, none⟩) (by first | (simp; done) | (simp; omega))).trans (by first | (simp; done) | go_simp)
        have X_l : w.heap.size < w1.heap.size := Nat.lt_of_lt_of_le (by first | (simp; done) | (simp; omega)) hc1.size
        have Q_0 : w1.cell? ⟨w.heap.size + 1, 0, none⟩ = some (.int .u32 q) := (hc1.cell (p := ⟨w.heap.size + 1, 0, none⟩) (by first | (simp; done) | (simp; omega))).trans (by first | (simp; done) | go_simp)
        have Q_l : w.heap.size + 1 < w1.heap.size := Nat.lt_of_lt_of_le (by first | (simp; done) | (simp; omega)) hc1.size
        replace hS := hS.later hst1
        clear hst1
        clear hc1 hb0
        go_wp2_with fail
        with_reducible refine (hidx (w.heap.size + 1) _ hS Q_l Q_0).mono ?_
        rintro e w2 ⟨rfl, hc2⟩
        have hb2 : Below w.heap.size w w2 := bchain (by repeat' (first | with_reducible exact hb1 | with_reducible refine Below.drew ?_ | with_reducible refine below_drewN ?_ _ | with_reducible refine Below.alloc ?_ (by have := hb1.size; first | (simp; done) | (simp; omega) | omega) _ | with_reducible refine Below.setCell ?_ (by first | (simp; done) | (simp; omega) | omega) _)) hc2
        have hst2 : Below w1.heap.size w1 w2 := bchain (by repeat' (first | with_reducible exact Below.refl _ _ | with_reducible refine Below.drew ?_ | with_reducible refine below_drewN ?_ _ | with_reducible refine Below.alloc ?_ (by first | (simp; done) | (simp; omega) | omega) _ | with_reducible refine Below.setCell ?_ (by first | (simp; done) | (simp; omega) | omega) _)) hc2
        replace X_0 := cell_later hst2 X_0
        replace X_1 := cell_later hst2 X_1
        replace X_2 := cell_later hst2 X_2
        replace X_3 := cell_later hst2 X_3
        replace X_4 := cell_later hst2 X_4
        replace X_5 := cell_later hst2 X_5
        replace X_6 := cell_later hst2 X_6
        replace X_7 := cell_later hst2 X_7
        replace X_8 := cell_later hst2 X_8
        replace X_9 := cell_later hst2 X_9
        replace X_10 := cell_later hst2 X_10
        replace X_l := Nat.lt_of_lt_of_le X_l hst2.size
        replace Q_0 := cell_later hst2 Q_0
        replace Q_l := Nat.lt_of_lt_of_le Q_l hst2.size
        replace hS := hS.later hst2
        clear hst2
        clear hc2 hb1
        obtain ⟨b, oo, rfl, g1, g2, hcell⟩ := hS.cells.peers (by omega)
        have c1 := (hcell k hlt).1
        clear hcell
        go_wp2_with fail
        go_ret2
        exact ⟨by rw [← H_hr.out]; exact rfl, (by repeat' (first | with_reducible exact hb2 | with_reducible refine Below.drew ?_ | with_reducible refine below_drewN ?_ _ | with_reducible refine Below.alloc ?_ (by have := hb2.size; first | (simp; done) | (simp; omega) | omega) _ | with_reducible refine Below.setCell ?_ (by first | (simp; done) | (simp; omega) | omega) _))⟩
      · have hr : (⟨#[]⟩, 6) = whoR K 0 ps q := by unfold whoR; rw [if_pos rfl, if_neg hKq, if_neg hlt]
        simp only [if_neg hlt] at hidx
        have H_hr := Box.mk hr
        clear hr
        go_enter Tryd.func20, Tryd.ntmps20
        have hb0 := Below.refl w.heap.size w
        go_wp2_with fail
        with_reducible refine (hpub _ ((hS.alloc _).alloc _)).mono ?_
        rintro e w1 ⟨rfl, hc1⟩
        have hb1 : Below w.heap.size w w1 := bchain (by repeat' (first | with_reducible exact hb0 | with_reducible refine Below.drew ?_ | with_reducible refine below_drewN ?_ _ | with_reducible refine Below.alloc ?_ (by have := hb0.size; first | (simp; done) | (simp; omega) | omega) _ | with_reducible refine Below.setCell ?_ (by first | (simp; done) | (simp; omega) | omega) _)) hc1
        have hst1 : Below w.heap.size w w1 := bchain (by repeat' (first | with_reducible exact Below.refl _ _ | with_reducible refine Below.drew ?_ | with_reducible refine below_drewN ?_ _ | with_reducible refine Below.alloc ?_ (by first | (simp; done) | (simp; omega) | omega) _ | with_reducible refine Below.setCell ?_ (by first | (simp; done) | (simp; omega) | omega) _)) hc1
        have X_0 : w1.cell? ⟨w.heap.size, 0, none⟩ = some (.int .i64 l0) := (hc1.cell (p := ⟨w.heap.size, 0, none⟩) (by first | (simp; done) | (simp; omega))).trans (by first | (simp; done) | go_simp)
        have X_1 : w1.cell? ⟨w.heap.size, 1, none⟩ = some (.int .i64 l1) := (hc1.cell (p := ⟨w.heap.size, 1, none⟩) (by first | (simp; done) | (simp; omega))).trans (by first | (simp; done) | go_simp)
        have X_2 : w1.cell? ⟨w.heap.size, 2, none⟩ = some (.int .i64 l2) := (hc1.cell (p := ⟨w.heap.size, 2, none⟩) (by first | (simp; done) | (simp; omega))).trans (by first | (simp; done) | go_simp)
        have X_3 : w1.cell? ⟨w.heap.size, 3, none⟩ = some (.int .i64 l3) := (hc1.cell (p := ⟨w.heap.size, 3, none⟩) (by first | (simp; done) | (simp; omega))).trans (by first | (simp; done) | go_simp)
        have X_4 : w1.cell? ⟨w.heap.size, 4, none⟩ = some (.int .i64 l4) := (hc1.cell (p := ⟨w.heap.size, 4, none⟩) (by first | (simp; done) | (simp; omega))).trans (by first | (simp; done) | go_simp)
        have X_5 : w1.cell? ⟨w.heap.size, 5, none⟩ = some (.int .i64 l5) := (hc1.cell (p := ⟨w.heap.size, 5, none⟩) (by first | (simp; done) | (simp; omega))).trans (by first | (simp; done) | go_simp)
        have X_6 : w1.cell? ⟨w.heap.size, 6, none⟩ = some (.int .i64 l6) := (hc1.cell (p := ⟨w.heap.size, 6, none⟩) (by first | (simp; done) | (simp; omega))).trans (by first | (simp; done) | go_simp)
        have X_7 : w1.cell? ⟨w.heap.size, 7, none⟩ = some (.int .i64 l7) := (hc1.cell (p := ⟨w.heap.size, 7, none⟩) (by first | (simp; done) | (simp; omega))).trans (by first | (simp; done) | go_simp)
        have X_8 : w1.cell? ⟨w.heap.size, 8, none⟩ = some (.int .i64 l8) := (hc1.cell (p := ⟨w.heap.size, 8, none⟩) (by first | (simp; done) | (simp; omega))).trans (by first | (simp; done) | go_simp)
        have X_9 : w1.cell? ⟨w.heap.size, 9, none⟩ = some (.int .u32 s) := (hc1.cell (p := ⟨w.heap.size, 9, none⟩) (by first | (simp; done) | (simp; omega))).trans (by first | (simp; done) | go_simp)
        have X_10 : w1.cell? ⟨w.heap.size, 10, none⟩ = some (.slice a ps.length c) := (hc1.cell (p := ⟨w.heap.size, 10, none⟩) (by first | (simp; done) | (simp; omega))).trans (by first | (simp; done) | go_simp)
        have X_l : w.heap.size < w1.heap.size := Nat.lt_of_lt_of_le (by first | (simp; done) | (simp; omega)) hc1.size
        have Q_0 : w1.cell? ⟨w.heap.size + 1, 0, none⟩ = some (.int .u32 q) := (hc1.cell (p := ⟨w.heap.size + 1, 0, none⟩) (by first | (simp; done) | (simp; omega))).trans (by first | (simp; done) | go_simp)
        have Q_l : w.heap.size + 1 < w1.heap.size := Nat.lt_of_lt_of_le (by first | (simp; done) | (simp; omega)) hc1.size
        replace hS := hS.later hst1
        clear hst1
        clear hc1 hb0
        go_wp2_with fail
        with_reducible refine (hidx (w.heap.size + 1) _ hS Q_l Q_0).mono ?_
        rintro e w2 ⟨rfl, hc2⟩
        have hb2 : Below w.heap.size w w2 := bchain (by repeat' (first | with_reducible exact hb1 | with_reducible refine Below.drew ?_ | with_reducible refine below_drewN ?_ _ | with_reducible refine Below.alloc ?_ (by have := hb1.size; first | (simp; done) | (simp; omega) | omega) _ | with_reducible refine Below.setCell ?_ (by first | (simp; done) | (simp; omega) | omega) _)) hc2
        have hst2 : Below w1.heap.size w1 w2 := bchain (by repeat' (first | with_reducible exact Below.refl _ _ | with_reducible refine Below.drew ?_ | with_reducible refine below_drewN ?_ _ | with_reducible refine Below.alloc ?_ (by first | (simp; done) | (simp; omega) | omega) _ | with_reducible refine Below.setCell ?_ (by first | (simp; done) | (simp; omega) | omega) _)) hc2
        replace X_0 := cell_later hst2 X_0
        replace X_1 := cell_later hst2 X_1
        replace X_2 := cell_later hst2 X_2
        replace X_3 := cell_later hst2 X_3
        replace X_4 := cell_later hst2 X_4
        replace X_5 := cell_later hst2 X_5
        replace X_6 := cell_later hst2 X_6
        replace X_7 := cell_later hst2 X_7
        replace X_8 := cell_later hst2 X_8
        replace X_9 := cell_later hst2 X_9
        replace X_10 := cell_later hst2 X_10
        replace X_l := Nat.lt_of_lt_of_le X_l hst2.size
        replace Q_0 := cell_later hst2 Q_0
        replace Q_l := Nat.lt_of_lt_of_le Q_l hst2.size
        replace hS := hS.later hst2
        clear hst2
        clear hc2 hb1
        go_wp2_with fail
        go_ret2
        exact ⟨by rw [← H_hr.out]; exact rfl, (by repeat' (first | with_reducible exact hb2 | with_reducible refine Below.drew ?_ | with_reducible refine below_drewN ?_ _ | with_reducible refine Below.alloc ?_ (by have := hb2.size; first | (simp; done) | (simp; omega) | omega) _ | with_reducible refine Below.setCell ?_ (by first | (simp; done) | (simp; omega) | omega) _))⟩
  · have hr : (⟨#[]⟩, E) = whoR (pubK s) E ps q := by unfold whoR; rw [if_neg h0]
    have hp : pubR E s = 0 := if_neg h0
    simp only [hp] at hpub
    have H_hE := Box.mk hE
    have H_hr := Box.mk hr
    have H_hK := Box.mk hK
    clear hE hr hK
    go_enter Tryd.func20, Tryd.ntmps20
    have hb0 := Below.refl w.heap.size w
    go_wp2_with fail
    with_reducible refine (hpub _ ((hS.alloc _).alloc _)).mono ?_
    rintro e w1 ⟨rfl, hc1⟩
    have hb1 : Below w.heap.size w w1 := bchain (by repeat' (first | with_reducible exact hb0 | with_reducible refine Below.drew ?_ | with_reducible refine below_drewN ?_ _ | with_reducible refine Below.alloc ?_ (by have := hb0.size; first | (simp; done) | (simp; omega) | omega) _ | with_reducible refine Below.setCell ?_ (by first | (simp; done) | (simp; omega) | omega) _)) hc1
    have X_0 : w1.cell? ⟨w.heap.size, 0, none⟩ = some (.int .i64 l0) := (hc1.cell (p := ⟨w.heap.size, 0, none⟩) (by first | (simp; done) | (simp; omega))).trans (by first | (simp; done) | go_simp)
    have X_1 : w1.cell? ⟨w.heap.size, 1, none⟩ = some (.int .i64 l1) := (hc1.cell (p := ⟨w.heap.size, 1, none⟩) (by first | (simp; done) | (simp; omega))).trans (by first | (simp; done) | go_simp)
    have X_2 : w1.cell? ⟨w.heap.size, 2, none⟩ = some (.int .i64 l2) := (hc1.cell (p := ⟨w.heap.size, 2, none⟩) (by first | (simp; done) | (simp; omega))).trans (by first | (simp; done) | go_simp)
    have X_3 : w1.cell? ⟨w.heap.size, 3, none⟩ = some (.int .i64 l3) := (hc1.cell (p := ⟨w.heap.size, 3, none⟩) (by first | (simp; done) | (simp; omega))).trans (by first | (simp; done) | go_simp)
    have X_4 : w1.cell? ⟨w.heap.size, 4, none⟩ = some (.int .i64 l4) := (hc1.cell (p := ⟨w.heap.size, 4, none⟩) (by first | (simp; done) | (simp; omega))).trans (by first | (simp; done) | go_simp)
    have X_5 : w1.cell? ⟨w.heap.size, 5, none⟩ = some (.int .i64 l5) := (hc1.cell (p := ⟨w.heap.size, 5, none⟩) (by first | (simp; done) | (simp; omega))).trans (by first | (simp; done) | go_simp)
    have X_6 : w1.cell? ⟨w.heap.size, 6, none⟩ = some (.int .i64 l6) := (hc1.cell (p := ⟨w.heap.size, 6, none⟩) (by first | (simp; done) | (simp; omega))).trans (by first | (simp; done) | go_simp)
    have X_7 : w1.cell? ⟨w.heap.size, 7, none⟩ = some (.int .i64 l7) := (hc1.cell (p := ⟨w.heap.size, 7, none⟩) (by first | (simp; done) | (simp; omega))).trans (by first | (simp; done) | go_simp)
    have X_8 : w1.cell? ⟨w.heap.size, 8, none⟩ = some (.int .i64 l8) := (hc1.cell (p := ⟨w.heap.size, 8, none⟩) (by first | (simp; done) | (simp; omega))).trans (by first | (simp; done) | go_simp)
    have X_9 : w1.cell? ⟨w.heap.size, 9, none⟩ = some (.int .u32 s) := (hc1.cell (p := ⟨w.heap.size, 9, none⟩) (by first | (simp; done) | (simp; omega))).trans (by first | (simp; done) | go_simp)
    have X_10 : w1.cell? ⟨w.heap.size, 10, none⟩ = some (.slice a ps.length c) := (hc1.cell (p := ⟨w.heap.size, 10, none⟩) (by first | (simp; done) | (simp; omega))).trans (by first | (simp; done) | go_simp)
    have X_l : w.heap.size < w1.heap.size := Nat.lt_of_lt_of_le (by first | (simp; done) | (simp; omega)) hc1.size
    have Q_0 : w1.cell? ⟨w.heap.size + 1, 0, none⟩ = some (.int .u32 q) := (hc1.cell (p := ⟨w.heap.size + 1, 0, none⟩) (by first | (simp; done) | (simp; omega))).trans (by first | (simp; done) | go_simp)
    have Q_l : w.heap.size + 1 < w1.heap.size := Nat.lt_of_lt_of_le (by first | (simp; done) | (simp; omega)) hc1.size
    clear hc1 hb0
    go_wp2_with fail
    go_ret2
    exact ⟨by rw [← H_hr.out]; exact rfl, (by repeat' (first | with_reducible exact hb1 | with_reducible refine Below.drew ?_ | with_reducible refine below_drewN ?_ _ | with_reducible refine Below.alloc ?_ (by have := hb1.size; first | (simp; done) | (simp; omega) | omega) _ | with_reducible refine Below.setCell ?_ (by first | (simp; done) | (simp; omega) | omega) _))⟩

end Go.Proofs.YthdldmkeoglflaaDoor
