/- Rows of the call's own: a store into one; tasks whose first row is the call's own; the run of picks as plain data. -/
import Derived.Test.YtoelndaeemlefaaMem3
import Derived.Test.YtoelndaeemlefaaSchedPlain
namespace Go.Proofs.Ytoelndaeemlefaa
open Go.RowKit
set_option linter.unusedSimpArgs false
set_option linter.unusedVariables false

theorem OwnX.setAt {w : World} {base e g c n : Nat} {xs : List Value} (h : OwnX w base e 1 (.slice (some ⟨g, 0, none⟩) n c) n xs) {i : Nat} (hi : i < n) (u : Value) :
    OwnX (w.setCell ⟨g, i, none⟩ u) base e 1 (.slice (some ⟨g, 0, none⟩) n c) n (xs.set i u) := by
  refine ⟨by simpa using h.1, ?_⟩
  rcases h.2 with ⟨h1, _⟩ | ⟨g', cap, cur, hv, h3, h4, h5, h6, h7, h8⟩
  · cases h1
  · cases hv
    refine .inr ⟨g, c, cur.setIfInBounds i u, rfl, h3, ?_, h5, h6, by simpa using h7, ?_⟩
    · simp [World.setCell, Array.getElem?_modify, h4]
    · rw [← h8]; simp [List.take_set]
theorem OwnX.at {w : World} {base e c n : Nat} {a : Option Addr} {xs : List Value} (h : OwnX w base e 1 (.slice a n c) n xs) (hn : 0 < n) :
    ∃ b, a = some ⟨b, 0, none⟩ ∧ base ≤ b ∧ b < w.heap.size ∧ (∀ j u, xs[j]? = some u → w.cell? ⟨b, j, none⟩ = some u) ∧ ∀ j, w.frozen? ⟨b, j, none⟩ = false := by
  rcases h.2 with ⟨_, h1⟩ | ⟨b, cap, cur, hv, h3, h4, h5, h6, h7, h8⟩
  · omega
  · cases hv
    have hlt := (h.lt b rfl).2
    refine ⟨b, rfl, h3, hlt, fun j u hj => ?_, fun j => ?_⟩
    · have := World.ownsRow.cells h (g := b) rfl j u hj
      rwa [Addr.add_lit, Nat.zero_add] at this
    · simp [World.frozen?, h4]

/-- Tasks whose first row is the call's own, below block `N`. -/
structure Tk (w : World) (B N : Nat) (la aa : Option Addr) (lc : Nat) (l a : List Int) : Prop where
  own : OwnX w B 3 1 (.slice la l.length lc) l.length (l.map (Value.int .i64))
  aft : CellsAt w aa (a.map (Value.int .i64))
  lt : ∀ ad, la = some ad → ad.block < N
  alt : ∀ ad, aa = some ad → ad.block < N
  ne : ∀ ad ad', la = some ad → aa = some ad' → ad'.block ≠ ad.block
theorem Tk.left {w : World} {B N : Nat} {la aa : Option Addr} {lc : Nat} {l a : List Int} (h : Tk w B N la aa lc l a) : CellsAt w la (l.map (Value.int .i64)) := h.own.cellsAt
theorem own_lt {la : Option Addr} {n c N : Nat} (h : ∀ ad, la = some ad → ad.block < N) : ∀ k, (Value.slice la n c).ownBlock = some k → k < N := by
  intro k hk
  cases la with
  | none => simp [Value.ownBlock] at hk
  | some ad => simp only [Value.ownBlock, Option.some.injEq] at hk; subst hk; exact h ad rfl
theorem Tk.below {w w' : World} {B N : Nat} {la aa : Option Addr} {lc : Nat} {l a : List Int} (h : Tk w B N la aa lc l a) (hb : Below N w w') : Tk w' B N la aa lc l a :=
  ⟨h.own.below hb (own_lt h.lt), h.aft.below hb (fun b o e => h.alt _ e), h.lt, h.alt, h.ne⟩
theorem Tk.later {w w' : World} {B N : Nat} {la aa : Option Addr} {lc : Nat} {l a : List Int} (h : Tk w B N la aa lc l a) (hb : Below w.heap.size w w') : Tk w' B N la aa lc l a :=
  ⟨h.own.later hb, h.aft.later hb, h.lt, h.alt, h.ne⟩
/-- The world has at least so many blocks. -/
def AtLeast (N : Nat) (w : World) : Prop := N ≤ w.heap.size
theorem AtLeast.later {N : Nat} {w w' : World} (h : AtLeast N w) (hb : Below w.heap.size w w') : AtLeast N w' := Nat.le_trans h hb.size
theorem Tk.set {w : World} {B N b : Nat} {aa : Option Addr} {lc : Nat} {l a : List Int} (h : Tk w B N (some ⟨b, 0, none⟩) aa lc l a) {i : Nat} (hi : i < l.length) (v : Int) :
    Tk (w.setCell ⟨b, i, none⟩ (.int .i64 v)) B N (some ⟨b, 0, none⟩) aa lc (l.set i v) a := by
  refine ⟨?_, h.aft.setFarG (p := ⟨b, i, none⟩) (fun ad e => h.ne ⟨b, 0, none⟩ ad rfl e) _, h.lt, h.alt, h.ne⟩
  have := h.own.setAt hi (.int .i64 v)
  rw [List.length_set, List.map_set]
  exact this
theorem Tk.at {w : World} {B N : Nat} {la aa : Option Addr} {lc : Nat} {l a : List Int} (h : Tk w B N la aa lc l a) (hn : 0 < l.length) :
    ∃ b, la = some ⟨b, 0, none⟩ ∧ B ≤ b ∧ b < N ∧ ∀ j, j < l.length → w.cell? ⟨b, j, none⟩ = some (.int .i64 (g l j)) ∧ w.frozen? ⟨b, j, none⟩ = false := by
  obtain ⟨b, rfl, h1, h2, h3, h4⟩ := h.own.at hn
  refine ⟨b, rfl, h1, h.lt _ rfl, fun j hj => ⟨h3 j _ ?_, h4 j⟩⟩
  simp [g, List.getElem?_map, List.getElem?_eq_getElem hj]

/-- Two rows of the call's own, the second made behind the first. -/
theorem Tk.of {w1 w2 : World} {B B1 B2 : Nat} {la aa : Option Addr} {lc ac : Nat} {l a : List Int} (hl : 0 < l.length → OwnX w1 B1 3 1 (.slice la l.length lc) l.length (l.map (Value.int .i64))) (ha : 0 < a.length → OwnX w2 B2 3 1 (.slice aa a.length ac) a.length (a.map (Value.int .i64)))
    (hB : B ≤ B1) (hB2 : w1.heap.size ≤ B2) (hb : Below w1.heap.size w1 w2) :
    CellsAt w2 la (l.map (Value.int .i64)) ∧ CellsAt w2 aa (a.map (Value.int .i64)) ∧ (0 < l.length → 0 < a.length → Tk w2 B w2.heap.size la aa lc l a ∧ (∀ ad, aa = some ad → B ≤ ad.block)) := by
  refine ⟨?_, ?_, fun h1 h2 => ?_⟩
  · by_cases h : 0 < l.length
    · exact (hl h).cellsAt.later hb
    · left; simp; exact List.eq_nil_of_length_eq_zero (by omega)
  · by_cases h : 0 < a.length
    · exact (ha h).cellsAt
    · left; simp; exact List.eq_nil_of_length_eq_zero (by omega)
  · have h3 := hl h1
    have h4 := ha h2
    refine ⟨⟨(h3.mono hB).later hb, h4.cellsAt, fun ad e => ?_, fun ad e => (h4.addr ad e).2, fun ad ad' e e' => ?_⟩, fun ad e => ?_⟩
    · have := (h3.addr ad e).2; have := hb.size; omega
    · have := (h3.addr ad e).2; have := (h4.addr ad' e').1; omega
    · have := (h3.lt · ·); have := (h4.addr ad e).1; have := h3.at h1; obtain ⟨b, _, h5, h6, _⟩ := this; omega
theorem CellsAt.setFarE {w : World} {a : Option Addr} {xs : List Int} (h : CellsAt w a (xs.map (Value.int .i64))) {p : Addr} {B : Nat} (hne : 0 < xs.length → ∀ ad, a = some ad → B ≤ ad.block) (hp : p.block < B) (u : Value) : CellsAt (w.setCell p u) a (xs.map (Value.int .i64)) := by
  by_cases h0 : 0 < xs.length
  · exact h.setFarG (fun ad e => by have := hne h0 ad e; omega) u
  · left; simp; exact List.eq_nil_of_length_eq_zero (by omega)
theorem own_from {w : World} {B B1 : Nat} {la : Option Addr} {lc : Nat} {l : List Int} (hl : 0 < l.length → OwnX w B1 3 1 (.slice la l.length lc) l.length (l.map (Value.int .i64))) (hB : B ≤ B1) : 0 < l.length → ∀ ad, la = some ad → B ≤ ad.block :=
  fun h ad e => Nat.le_trans hB ((hl h).addr ad e).1
theorem Tk.mono {w : World} {B B' N : Nat} {la aa : Option Addr} {lc : Nat} {l a : List Int} (h : Tk w B N la aa lc l a) (hB : B' ≤ B) : Tk w B' N la aa lc l a :=
  ⟨h.own.mono hB, h.aft, h.lt, h.alt, h.ne⟩
theorem Tk.size {w : World} {B N : Nat} {la aa : Option Addr} {lc : Nat} {l a : List Int} (h : Tk w B N la aa lc l a) {N' : Nat} (hN : N ≤ N') : Tk w B N' la aa lc l a :=
  ⟨h.own, h.aft, fun ad e => Nat.lt_of_lt_of_le (h.lt ad e) hN, fun ad e => Nat.lt_of_lt_of_le (h.alt ad e) hN, h.ne⟩
theorem Tk.far {w : World} {B N : Nat} {la aa : Option Addr} {lc : Nat} {l a : List Int} (h : Tk w B N la aa lc l a) {p : Addr} (hp : p.block < B) (ha : ∀ ad, aa = some ad → B ≤ ad.block) (u : Value) : Tk (w.setCell p u) B N la aa lc l a :=
  ⟨h.own.setCell hp u, h.aft.setFarG (p := p) (fun ad e => by have := ha ad e; omega) u, h.lt, h.alt, h.ne⟩
theorem Tk.setNe {w : World} {B N : Nat} {la aa : Option Addr} {lc : Nat} {l a : List Int} (h : Tk w B N la aa lc l a) {p : Addr} (hl : ∀ ad, la = some ad → ad.block ≠ p.block) (ha : ∀ ad, aa = some ad → ad.block ≠ p.block) (u : Value) : Tk (w.setCell p u) B N la aa lc l a := by
  refine ⟨h.own.setFar (a := p) (fun e => ?_) u, h.aft.setFarG (p := p) ha u, h.lt, h.alt, h.ne⟩
  cases la with
  | none => simp [Value.ownBlock] at e
  | some ad => simp only [Value.ownBlock, Option.some.injEq] at e; exact hl ad rfl e
theorem Tk.alloc {w : World} {B : Nat} {la aa : Option Addr} {lc : Nat} {l a : List Int} (h : Tk w B w.heap.size la aa lc l a) (o : Obj) : Tk (w.alloc o) B (w.alloc o).heap.size la aa lc l a :=
  have hs : w.heap.size ≤ (w.alloc o).heap.size := by simp
  ⟨h.own.alloc o, h.aft.alloc o, fun ad e => by have := h.lt ad e; omega, fun ad e => by have := h.alt ad e; omega, h.ne⟩

/-- The runnable ones of the first k. -/
def runs (l a : List Int) (k : Nat) : List Int := ((List.range k).filter (can l a)).map Int.ofNat
theorem runs_succ (l a : List Int) (k : Nat) : runs l a (k + 1) = if can l a k then runs l a k ++ [(k : Int)] else runs l a k := by
  unfold runs
  rw [List.range_succ, List.filter_append]
  by_cases h : can l a k = true
  · simp [h]
  · simp [h]
theorem runs_len (l a : List Int) (k : Nat) : (runs l a k).length ≤ k := by
  unfold runs
  rw [List.length_map]
  exact Nat.le_trans (List.length_filter_le _ _) (by simp)

/-- What is left, and which picks took a step, after k picks. -/
def runAt (a ps l : List Int) : Nat → List Int × List Int
  | 0 => (l, [])
  | k + 1 => if can (runAt a ps l k).1 a (g ps k).toNat then ((runAt a ps l k).1.set (g ps k).toNat (g (runAt a ps l k).1 (g ps k).toNat - 1), (runAt a ps l k).2 ++ [(k : Int)]) else runAt a ps l k
theorem runAt_yes {a ps l : List Int} {k m : Nat} (hm : g ps k = m) (h : can (runAt a ps l k).1 a m = true) : runAt a ps l (k + 1) = ((runAt a ps l k).1.set m (g (runAt a ps l k).1 m - 1), (runAt a ps l k).2 ++ [(k : Int)]) := by
  simp [runAt, hm, h]
theorem runAt_no {a ps l : List Int} {k m : Nat} (hm : g ps k = m) (h : can (runAt a ps l k).1 a m = false) : runAt a ps l (k + 1) = runAt a ps l k := by
  simp [runAt, hm, h]
theorem runAt_len (a ps l : List Int) (k : Nat) : (runAt a ps l k).1.length = l.length := by
  induction k with
  | zero => rfl
  | succ k ih => unfold runAt; split <;> simp [ih]
theorem runAt_did (a ps l : List Int) (k : Nat) : (runAt a ps l k).2.length ≤ k := by
  induction k with
  | zero => simp [runAt]
  | succ k ih => unfold runAt; split <;> first | omega | (simp; omega)
theorem runAt_TV {a ps l : List Int} (h : TV l a) (hp : ∀ j, j < ps.length → 0 ≤ g ps j ∧ g ps j < l.length) {k : Nat} (hk : k ≤ ps.length) : TV (runAt a ps l k).1 a := by
  induction k with
  | zero => exact h
  | succ k ih =>
    have ih := ih (by omega)
    unfold runAt
    split
    · rename_i hc
      have := hp k (by omega)
      exact ih.step (by rw [runAt_len]; omega) hc
    · exact ih

/-- New, Run. -/
def tkNew (l a : List Int) : (List Int × List Int) × Int := if tErr l a = 0 then ((l, a), 0) else (([], []), tErr l a)
def tkRun (l a ps : List Int) : (List Int × List Int) × List Int × Int := if pkErr l a ps = 0 then (((runAt a ps l ps.length).1, a), (runAt a ps l ps.length).2, 0) else (([], []), [], pkErr l a ps)
def tkRuns (l a : List Int) : List Int × Int := if tErr l a = 0 then (runs l a l.length, 0) else ([], tErr l a)
/-- A call has returned these tasks and this error. -/
def TkRet (w : World) (e : Ending) (r : (List Int × List Int) × Int) : Prop :=
  ∃ la lc aa ac, e = .returned (.tuple #[.agg #[.slice la r.1.1.length lc, .slice aa r.1.2.length ac], .int .i64 r.2]) ∧ CellsAt w la (r.1.1.map (Value.int .i64)) ∧ CellsAt w aa (r.1.2.map (Value.int .i64))
def TkRet3 (B : Nat) (w : World) (e : Ending) (r : (List Int × List Int) × List Int × Int) : Prop :=
  ∃ la lc aa ac da dc, e = .returned (.tuple #[.agg #[.slice la r.1.1.length lc, .slice aa r.1.2.length ac], .slice da r.2.1.length dc, .int .i64 r.2.2]) ∧ CellsAt w la (r.1.1.map (Value.int .i64)) ∧ CellsAt w aa (r.1.2.map (Value.int .i64)) ∧ CellsAt w da (r.2.1.map (Value.int .i64)) ∧ (∀ ad, la = some ad → B ≤ ad.block) ∧ (∀ ad, aa = some ad → B ≤ ad.block) ∧ (∀ ad, da = some ad → B ≤ ad.block)
def TkPick (w : World) (e : Ending) (r : (List Int × List Int) × List Int × Int) : Prop :=
  ∃ la lc aa ac, e = .returned (.tuple #[.agg #[.slice la r.1.1.length lc, .slice aa r.1.2.length ac], .bool (decide (0 < r.2.1.length)), .int .i64 r.2.2]) ∧ CellsAt w la (r.1.1.map (Value.int .i64)) ∧ CellsAt w aa (r.1.2.map (Value.int .i64))
def ListRet (w : World) (e : Ending) (r : List Int × Int) : Prop :=
  ∃ a c, e = .returned (.tuple #[.slice a r.1.length c, .int .i64 r.2]) ∧ CellsAt w a (r.1.map (Value.int .i64))
theorem TkRet.of {w : World} {e : Ending} {r r' : (List Int × List Int) × Int} (h : TkRet w e r) (he : r = r') : TkRet w e r' := he ▸ h
theorem TkRet3.of {B : Nat} {w : World} {e : Ending} {r r' : (List Int × List Int) × List Int × Int} (h : TkRet3 B w e r) (he : r = r') : TkRet3 B w e r' := he ▸ h
theorem TkPick.of {w : World} {e : Ending} {r r' : (List Int × List Int) × List Int × Int} (h : TkPick w e r) (he : r = r') : TkPick w e r' := he ▸ h
theorem ListRet.of {w : World} {e : Ending} {r r' : List Int × Int} (h : ListRet w e r) (he : r = r') : ListRet w e r' := he ▸ h

end Go.Proofs.Ytoelndaeemlefaa
