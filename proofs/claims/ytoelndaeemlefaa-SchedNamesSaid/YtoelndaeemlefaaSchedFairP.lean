/- Fairness as plain data. -/
import Derived.Test.YtoelndaeemlefaaSchedOwn
namespace Go.Proofs.Ytoelndaeemlefaa
open Go.RowKit
set_option linter.unusedSimpArgs false
set_option linter.unusedVariables false

/-- At pick j task k is runnable and not picked. -/
def skip (l a ps : List Int) (k j : Nat) : Bool := can (runAt a ps l j).1 a k && !(g ps j == (k : Int))
/-- For how many picks up to j the task was runnable and not picked. -/
def wt (l a ps : List Int) (k : Nat) : Nat → Nat
  | 0 => 0
  | j + 1 => if skip l a ps k j then wt l a ps k j + 1 else 0
def fairB (l a ps : List Int) (W : Nat) : Bool := (List.range (ps.length + 1 - W)).all fun i => (List.range l.length).all fun k => !(List.range W).all fun d => skip l a ps k (i + d)
def tkFair (l a ps : List Int) (win : Int) : Bool × Int := if pkErr l a ps = 0 then (if win < 1 then (false, 2) else (fairB l a ps win.toNat, 0)) else (false, pkErr l a ps)

theorem wt_le (l a ps : List Int) (k : Nat) : ∀ j, wt l a ps k j ≤ j
  | 0 => Nat.le_refl _
  | j + 1 => by
    have := wt_le l a ps k j
    unfold wt
    split <;> omega
theorem wt_all {l a ps : List Int} {k : Nat} : ∀ {j d : Nat}, d < wt l a ps k j → skip l a ps k (j - 1 - d) = true
  | 0, d, h => by simp [wt] at h
  | j + 1, d, h => by
    unfold wt at h
    split at h
    · rename_i hs
      cases d with
      | zero => simpa using hs
      | succ d =>
        have := wt_all (l := l) (a := a) (ps := ps) (k := k) (j := j) (d := d) (by omega)
        rwa [show j + 1 - 1 - (d + 1) = j - 1 - d from by omega]
    · omega
theorem wt_ge {l a ps : List Int} {k i : Nat} : ∀ {d : Nat}, (∀ e, e < d → skip l a ps k (i + e) = true) → d ≤ wt l a ps k (i + d)
  | 0, _ => Nat.zero_le _
  | d + 1, h => by
    have h1 := wt_ge (d := d) fun e he => h e (by omega)
    rw [← Nat.add_assoc]
    unfold wt
    rw [if_pos (h d (by omega))]
    omega
theorem fairB_no {l a ps : List Int} {W i k : Nat} (hi : i + W ≤ ps.length) (hk : k < l.length) (h : ∀ d, d < W → skip l a ps k (i + d) = true) : fairB l a ps W = false := by
  unfold fairB
  rw [List.all_eq_false]
  refine ⟨i, List.mem_range.2 (by omega), ?_⟩
  rw [Bool.not_eq_true, List.all_eq_false]
  refine ⟨k, List.mem_range.2 hk, ?_⟩
  rw [Bool.not_eq_true, Bool.not_eq_false', List.all_eq_true]
  exact fun d hd => h d (List.mem_range.1 hd)
theorem fairB_yes {l a ps : List Int} {W : Nat} (h : ∀ i k, i + W ≤ ps.length → k < l.length → ∃ d, d < W ∧ skip l a ps k (i + d) = false) : fairB l a ps W = true := by
  unfold fairB
  rw [List.all_eq_true]
  intro i hi
  rw [List.all_eq_true]
  intro k hk
  have hi' := List.mem_range.1 hi
  by_cases hW : W ≤ ps.length
  · obtain ⟨d, h1, h2⟩ := h i k (by omega) (List.mem_range.1 hk)
    rw [Bool.not_eq_true', List.all_eq_false]
    exact ⟨d, List.mem_range.2 h1, by simp [h2]⟩
  · omega
theorem fairB_spec {l a ps : List Int} {W i k : Nat} (hf : fairB l a ps W = true) (hi : i + W ≤ ps.length) (hk : k < l.length) : ∃ d, d < W ∧ skip l a ps k (i + d) = false := by
  apply Classical.byContradiction
  intro hn
  have : fairB l a ps W = false := fairB_no hi hk fun d hd => by
    cases hs : skip l a ps k (i + d) with
    | true => rfl
    | false => exact absurd ⟨d, hd, hs⟩ hn
  rw [this] at hf
  cases hf
theorem fair_no {l a ps : List Int} {W j k : Nat} (hW : 1 ≤ W) (hj : j ≤ ps.length) (hk : k < l.length) (h : W ≤ wt l a ps k j) : fairB l a ps W = false := by
  have := wt_le l a ps k j
  refine fairB_no (i := j - W) (by omega) hk fun d hd => ?_
  have := wt_all (l := l) (a := a) (ps := ps) (k := k) (j := j) (d := W - 1 - d) (by omega)
  rwa [show j - 1 - (W - 1 - d) = j - W + d from by omega] at this
theorem fair_yes {l a ps : List Int} {W : Nat} (h : ∀ k j, k < l.length → j ≤ ps.length → wt l a ps k j < W) : fairB l a ps W = true := by
  refine fairB_yes fun i k hi hk => ?_
  apply Classical.byContradiction
  intro hn
  have := wt_ge (l := l) (a := a) (ps := ps) (k := k) (i := i) (d := W) fun e he => by
    cases hs : skip l a ps k (i + e) with
    | true => rfl
    | false => exact absurd ⟨e, he, hs⟩ hn
  have := h k (i + W) hk hi
  omega

/-- The state of the program's Fair. -/
structure FSt (wr : World) (B N lb : Nat) (aa : Option Addr) (lc len : Nat) (a L wv : List Int) : Prop where
  tk : Tk wr B N (some ⟨lb, 0, none⟩) aa lc L a
  wait : OwnX wr N 3 1 (.slice (some ⟨N, 0, none⟩) len len) len (wv.map (Value.int .i64))
  wl : wv.length = len
  ll : L.length = len
  at_ : AtLeast (N + 1) wr
theorem FSt.later {wr w' : World} {B N lb : Nat} {aa : Option Addr} {lc len : Nat} {a L wv : List Int} (h : FSt wr B N lb aa lc len a L wv) (hb : Below wr.heap.size wr w') : FSt w' B N lb aa lc len a L wv :=
  ⟨h.tk.later hb, h.wait.later hb, h.wl, h.ll, h.at_.later hb⟩
theorem FSt.setw {wr : World} {B N lb : Nat} {aa : Option Addr} {lc len : Nat} {a L wv : List Int} (h : FSt wr B N lb aa lc len a L wv) {q : Nat} (hq : q < len) (v : Int) : FSt (wr.setCell ⟨N, q, none⟩ (.int .i64 v)) B N lb aa lc len a L (wv.set q v) := by
  refine ⟨h.tk.setNe (p := ⟨N, q, none⟩) (fun ad e => ?_) (fun ad e => ?_) _, ?_, by simpa using h.wl, h.ll, ?_⟩
  · have := h.tk.lt ad e; simp; omega
  · have := h.tk.alt ad e; simp; omega
  · have := h.wait.setAt hq (.int .i64 v)
    rw [List.map_set]; exact this
  · have := h.at_; unfold AtLeast at *; simpa using this
theorem FSt.setl {wr : World} {B N lb : Nat} {aa : Option Addr} {lc len : Nat} {a L wv : List Int} (h : FSt wr B N lb aa lc len a L wv) {q : Nat} (hq : q < len) (v : Int) : FSt (wr.setCell ⟨lb, q, none⟩ (.int .i64 v)) B N lb aa lc len a (L.set q v) wv := by
  refine ⟨h.tk.set (by rw [h.ll]; exact hq) v, h.wait.setCell (a := ⟨lb, q, none⟩) (h.tk.lt ⟨lb, 0, none⟩ rfl) _, h.wl, by simpa using h.ll, ?_⟩
  have := h.at_; unfold AtLeast at *; simpa using this
theorem FSt.cellw {wr : World} {B N lb : Nat} {aa : Option Addr} {lc len : Nat} {a L wv : List Int} (h : FSt wr B N lb aa lc len a L wv) {q : Nat} (hq : q < len) : wr.cell? ⟨N, q, none⟩ = some (.int .i64 (g wv q)) ∧ wr.frozen? ⟨N, q, none⟩ = false := by
  obtain ⟨b, e, _, _, h3, h4⟩ := h.wait.at (by omega)
  cases e
  refine ⟨h3 q _ ?_, h4 q⟩
  have := h.wl
  simp [g, List.getElem?_map, List.getElem?_eq_getElem (show q < wv.length by omega)]
theorem FSt.celll {wr : World} {B N lb : Nat} {aa : Option Addr} {lc len : Nat} {a L wv : List Int} (h : FSt wr B N lb aa lc len a L wv) {q : Nat} (hq : q < len) : wr.cell? ⟨lb, q, none⟩ = some (.int .i64 (g L q)) ∧ wr.frozen? ⟨lb, q, none⟩ = false ∧ B ≤ lb ∧ lb < N := by
  obtain ⟨b, e, h1, h2, h3⟩ := h.tk.at (by rw [h.ll]; omega)
  cases e
  exact ⟨(h3 q (by rw [h.ll]; exact hq)).1, (h3 q (by rw [h.ll]; exact hq)).2, h1, h2⟩
theorem wt_yes {l a ps : List Int} {k j : Nat} (h : skip l a ps k j = true) : wt l a ps k (j + 1) = wt l a ps k j + 1 := by simp [wt, h]
theorem wt_no {l a ps : List Int} {k j : Nat} (h : skip l a ps k j = false) : wt l a ps k (j + 1) = 0 := by simp [wt, h]

end Go.Proofs.Ytoelndaeemlefaa
