/- Pieces of bytes: what they are in memory; whether one is too long. -/
import Derived.Test.YtfabcdpmnbeflaaDoorDigOpen
import Derived.Test.YtfabcdpmnbeflaaDoorDigCmp
namespace Go.Proofs.YtfabcdpmnbeflaaDoor
set_option maxRecDepth 100000
set_option linter.unusedSimpArgs false
set_option linter.unusedVariables false
set_option linter.unnecessarySimpa false
open Go.RowKit

def pc (l : List (List Int)) (i : Nat) : List Int := l[i]?.getD []
theorem PieceAt.later {w w' : World} {v : Value} {bs : List Int} (h : PieceAt w v bs) (hb : Below w.heap.size w w') : PieceAt w' v bs :=
  let ⟨a, c, hv, hc, h8, hl⟩ := h
  ⟨a, c, hv, hc.later hb, h8, hl⟩
theorem PiecesAt.later {w w' : World} : ∀ {vs : List Value} {l : List (List Int)}, PiecesAt w vs l → Below w.heap.size w w' → PiecesAt w' vs l
  | [], [], _, _ => trivial
  | _ :: _, _ :: _, h, hb => ⟨h.1.later hb, PiecesAt.later h.2 hb⟩
  | [], _ :: _, h, _ => h.elim
  | _ :: _, [], h, _ => h.elim
theorem PiecesIn.later {w w' : World} {a : Option Addr} {vs : List Value} {l : List (List Int)} (h : PiecesIn w a vs l) (hb : Below w.heap.size w w') : PiecesIn w' a vs l := ⟨h.cells.later hb, h.all.later hb, h.vlen, h.len⟩
theorem PiecesAt.at {w : World} : ∀ {vs : List Value} {l : List (List Int)}, PiecesAt w vs l → ∀ i, i < l.length → ∃ v, vs[i]? = some v ∧ PieceAt w v (pc l i)
  | [], [], _, i, hi => by simp at hi
  | v :: vs, bs :: l, h, 0, _ => ⟨v, rfl, h.1⟩
  | v :: vs, bs :: l, h, i + 1, hi => by
    obtain ⟨u, h1, h2⟩ := PiecesAt.at h.2 i (by simpa using hi)
    exact ⟨u, by simpa using h1, by simpa [pc] using h2⟩
  | [], _ :: _, h, _, _ => h.elim
  | _ :: _, [], h, _, _ => h.elim
/-- One piece, in the walk's spelling. -/
theorem PiecesIn.at {w : World} {a : Option Addr} {vs : List Value} {l : List (List Int)} (h : PiecesIn w a vs l) {i : Nat} (hi : i < l.length) :
    ∃ (b o : Nat) (x : Option Addr) (n c : Nat), a = some ⟨b, o, none⟩ ∧ w.cell? ⟨b, o + i, none⟩ = some (.slice x n c) ∧ n = (pc l i).length ∧ CellsAt w x ((pc l i).map (Value.int .u8)) ∧ Bytes8 (pc l i) ∧ n ≤ maxLen := by
  obtain ⟨v, hv, x, c, rfl, h2, h3, h4⟩ := h.all.at i hi
  rcases h.cells with h0 | ⟨b, o, ha, hc⟩
  · subst h0; simp at hv
  · exact ⟨b, o, x, _, c, ha, hc i _ hv, rfl, h2, h3, h4⟩
def longB (bs : List Int) : Bool := decide ((10000 : Int) < (bs.length : Int))
theorem any_long_of {l : List (List Int)} {k : Nat} (hk : k < l.length) (h : longB (pc l k) = true) : l.any longB = true :=
  List.any_eq_true.2 ⟨pc l k, by unfold pc; rw [List.getElem?_eq_getElem hk]; exact List.getElem_mem hk, h⟩
theorem no_long_of {l : List (List Int)} (h : ∀ j, j < l.length → longB (pc l j) = false) : l.any longB = false := by
  rw [List.any_eq_false]
  intro x hx
  obtain ⟨j, hj, rfl⟩ := List.getElem_of_mem hx
  have := h j hj
  unfold pc at this
  rw [List.getElem?_eq_getElem hj] at this
  simpa using this
theorem pc_of_no {l : List (List Int)} (h : l.any longB = false) (j : Nat) : (pc l j).length ≤ 10000 := by
  unfold pc
  by_cases hj : j < l.length
  · rw [List.getElem?_eq_getElem hj]
    have := List.any_eq_false.1 h _ (List.getElem_mem hj)
    simp [longB] at this
    show (l[j]).length ≤ 10000
    omega
  · rw [List.getElem?_eq_none (by omega)]; simp

theorem tooLong_any (x : Option Addr) (n c : Nat) (w : World) :
    Calls Tryd.prog 62 #[.slice x n c] w fun e w' =>
      e = .returned (.bool (decide ((10000 : Int) < (n : Int)))) ∧ Below w.heap.size w w' := by
  go_enter Tryd.func62, Tryd.ntmps62
  have hb0 := Below.refl w.heap.size w
  go_wp2_with fail
  go_ret
  exact ⟨rfl, by repeat' (first | with_reducible exact hb0 | with_reducible refine Below.drew ?_ | with_reducible refine below_drewN ?_ _ | with_reducible refine Below.alloc ?_ (by have := hb0.size; first | (simp; done) | (simp; omega) | omega) _ | with_reducible refine Below.setCell ?_ (by first | (simp; done) | (simp; omega) | omega) _)⟩

/-- What IndexFunc hands back here. -/
def IdxR (l : List (List Int)) (e : Ending) : Prop := ∃ r : Int, e = .returned (.int .i64 r) ∧ decide (0 ≤ r) = l.any longB
set_option maxHeartbeats 1000000 in
theorem idxP_any (l : List (List Int)) (vs : List Value) (a : Option Addr) (n c : Nat) (w : World) (hP : PiecesIn w a vs l) (hn : n = l.length) :
    Calls Tryd.prog 72 #[.slice a n c, .func (.func 62) #[] #[]] w fun e w' =>
      IdxR l e ∧ Below w.heap.size w w' := by
  have hml := hP.len
  unfold maxLen at hml
  rw [← hn] at hml
  have H_hn := hid hn
  clear hn
  go_enter Tryd.func72, Tryd.ntmps72
  have hb0 := Below.refl w.heap.size w
  go_wp2_with fail
  go_loopw [8] (fun i wr => ∃ k : Nat, k ≤ n ∧ i = .int .i64 k ∧ Below w.heap.size w wr ∧ Hid (∀ j, j < k → longB (pc l j) = false)) (fun i _ => n - (intOf i).toNat)
  case atStart => exact ⟨0, Nat.zero_le _, rfl, (by repeat' (first | with_reducible exact hb0 | with_reducible refine Below.drew ?_ | with_reducible refine below_drewN ?_ _ | with_reducible refine Below.alloc ?_ (by have := hb0.size; first | (simp; done) | (simp; omega) | omega) _ | with_reducible refine Below.setCell ?_ (by first | (simp; done) | (simp; omega) | omega) _)), hid (fun j hj => by omega)⟩
  case round =>
    obtain ⟨k, hk, rfl, hbw, Hall⟩ := hrel
    by_cases hlt : k < n
    · have hlt' : (k : Int) < (n : Int) := by omega
      obtain ⟨b, o, x, m, cx, rfl, cc, hm, _⟩ := (hP.later hbw).at (i := k) (by have := H_hn.out; omega)
      have Hm := hid hm
      clear hm hP
      by_cases hp : (10000 : Int) < (m : Int)
      · have hlg := hid (any_long_of (l := l) (k := k) (by have := H_hn.out; omega) (by unfold longB; rw [← Hm.out]; simpa using hp))
        go_wp2_with fail
        with_reducible refine (tooLong_any x m cx _).mono ?_
        rintro e w11 ⟨rfl, hc11⟩
        have hb11 : Below w.heap.size w w11 := bchain (by repeat' (first | with_reducible exact hbw | with_reducible refine Below.drew ?_ | with_reducible refine below_drewN ?_ _ | with_reducible refine Below.alloc ?_ (by have := hbw.size; first | (simp; done) | (simp; omega) | omega) _ | with_reducible refine Below.setCell ?_ (by first | (simp; done) | (simp; omega) | omega) _)) hc11
        clear hc11 hbw
        go_wp2_with fail
        go_ret
        refine ⟨⟨_, rfl, ?_⟩, (by repeat' (first | with_reducible exact hb11 | with_reducible refine Below.drew ?_ | with_reducible refine below_drewN ?_ _ | with_reducible refine Below.alloc ?_ (by have := hb11.size; first | (simp; done) | (simp; omega) | omega) _ | with_reducible refine Below.setCell ?_ (by first | (simp; done) | (simp; omega) | omega) _))⟩
        rw [hlg.out]; simp
      · have hp' : (m : Int) ≤ 10000 := by omega
        go_wp2_with fail
        with_reducible refine (tooLong_any x m cx _).mono ?_
        rintro e w11 ⟨rfl, hc11⟩
        have hb11 : Below w.heap.size w w11 := bchain (by repeat' (first | with_reducible exact hbw | with_reducible refine Below.drew ?_ | with_reducible refine below_drewN ?_ _ | with_reducible refine Below.alloc ?_ (by have := hbw.size; first | (simp; done) | (simp; omega) | omega) _ | with_reducible refine Below.setCell ?_ (by first | (simp; done) | (simp; omega) | omega) _)) hc11
        clear hc11 hbw
        go_wp2_with fail
        go_roundw
        case rel => exact ⟨k + 1, by omega, by go_num, (by repeat' (first | with_reducible exact hb11 | with_reducible refine Below.drew ?_ | with_reducible refine below_drewN ?_ _ | with_reducible refine Below.alloc ?_ (by have := hb11.size; first | (simp; done) | (simp; omega) | omega) _ | with_reducible refine Below.setCell ?_ (by first | (simp; done) | (simp; omega) | omega) _)), hid (fun j hj => by
          by_cases hjk : j < k
          · exact Hall.out j hjk
          · obtain rfl : j = k := by omega
            unfold longB; rw [← Hm.out]; simpa using hp')⟩
        case measure => simp [intOf]; omega
    · have hge : (n : Int) ≤ (k : Int) := by omega
      go_wp2_with fail
      go_ret
      refine ⟨⟨_, rfl, ?_⟩, hbw⟩
      rw [no_long_of fun j hj => Hall.out j (by have := H_hn.out; omega)]; rfl
set_option maxHeartbeats 1000000 in
theorem hasLong_any (l : List (List Int)) (vs : List Value) (a : Option Addr) (n c : Nat) (w : World) (hP : PiecesIn w a vs l) (hn : n = l.length) :
    Calls Tryd.prog 61 #[.slice a n c, .func (.func 62) #[] #[]] w fun e w' =>
      e = .returned (.bool (l.any longB)) ∧ Below w.heap.size w w' := by
  have H_hn := hid hn
  clear hn
  go_enter Tryd.func61, Tryd.ntmps61
  have hb0 := Below.refl w.heap.size w
  go_wp2_with fail
  with_reducible refine (idxP_any l vs a n c _ hP H_hn.out).mono ?_
  rintro e w1 ⟨⟨r, rfl, hr⟩, hc1⟩
  have hb1 : Below w.heap.size w w1 := bchain (by repeat' (first | with_reducible exact hb0 | with_reducible refine Below.drew ?_ | with_reducible refine below_drewN ?_ _ | with_reducible refine Below.alloc ?_ (by have := hb0.size; first | (simp; done) | (simp; omega) | omega) _ | with_reducible refine Below.setCell ?_ (by first | (simp; done) | (simp; omega) | omega) _)) hc1
  clear hc1 hb0
  go_wp2_with fail
  go_ret
  exact ⟨rfl, by repeat' (first | with_reducible exact hb1 | with_reducible refine Below.drew ?_ | with_reducible refine below_drewN ?_ _ | with_reducible refine Below.alloc ?_ (by have := hb1.size; first | (simp; done) | (simp; omega) | omega) _ | with_reducible refine Below.setCell ?_ (by first | (simp; done) | (simp; omega) | omega) _)⟩

end Go.Proofs.YtfabcdpmnbeflaaDoor
