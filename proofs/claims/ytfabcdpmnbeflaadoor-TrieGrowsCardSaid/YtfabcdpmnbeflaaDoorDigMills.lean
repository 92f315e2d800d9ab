/- DigestMills: the law's function returns true. -/
import Derived.Test.YtfabcdpmnbeflaaDoorDigSame
import Derived.Test.YtfabcdpmnbeflaaDoorOwnAt
namespace Go.Proofs.YtfabcdpmnbeflaaDoor
set_option maxRecDepth 100000
set_option linter.unusedSimpArgs false
set_option linter.unusedVariables false
set_option linter.unnecessarySimpa false
open Go.RowKit

/-- What the walk is told of a mill and of bytes that came in. -/
structure MillIn (w : World) (v : V8) (rs : List Int) (N : Int) (ra : Option Addr) : Prop where
  ok : v.ok
  cells : CellsAt w ra (rs.map (Value.int .u8))
  bytes : Bytes8 rs
  len : rs.length ≤ maxLen
structure BytesIn (w : World) (a : Option Addr) (bs : List Int) : Prop where
  cells : CellsAt w a (bs.map (Value.int .u8))
  bytes : Bytes8 bs
  len : bs.length ≤ maxLen
theorem nilCells (w : World) (a : Option Addr) (k : IntKind) : CellsAt w a (([] : List Int).map (Value.int k)) := .inl rfl
def VBlk (B t : Nat) (cs : List Value) : Value → World → Prop := fun v w => ∃ b, v = .pointer (some ⟨b, 0, none⟩) ∧ B ≤ b ∧ Blk w b t cs
theorem VBlk.last {B t : Nat} {cs : List Value} (v : Value) (w w' : World) (h : VBlk B t cs v w) (hb : Below w.heap.size w w') : VBlk B t cs v w' :=
  let ⟨b, hv, hB, hc⟩ := h
  ⟨b, hv, hB, hc.later hb⟩
/-- A row that lies apart from another's block, where both hold something. -/
def VCupA (B : Nat) (e : TypeId) (size n : Nat) (cs ys : List Value) (u : Value) : Value → World → Prop := fun v w => VCup B e size n cs v w ∧ (ys = [] ∨ cs = [] ∨ ∀ k, u.ownBlock = some k → v.ownBlock ≠ some k)
theorem VCupA.last {B : Nat} {e : TypeId} {size n : Nat} {cs ys : List Value} {u : Value} (v : Value) (w w' : World) (h : VCupA B e size n cs ys u v w) (hb : Below w.heap.size w w') : VCupA B e size n cs ys u v w' := ⟨VCup.last v w w' h.1 hb, h.2⟩
theorem CupX.ne_blk {w : World} {base : Nat} {e t : TypeId} {size : Nat} {a : Option Addr} {n m c B : Nat} {xs cs : List Value} (h : CupX w base e size (.slice a m c) n xs) (hb : Blk w B t cs) (ht : e ≠ t) (hx : xs ≠ []) : ∀ ad, a = some ad → ad.block ≠ B := by
  intro ad had e'
  subst had
  rcases h with h | ⟨_, h, _⟩
  · rcases h.2 with ⟨h1, _⟩ | ⟨g, cap, cur, h1, _, h2, _⟩
    · cases h1
    · cases h1
      simp only at e'
      subst e'
      have := h2.symm.trans hb
      simp at this
      exact ht this.2
  · exact hx h

theorem CupX.mono {w : World} {base base' : Nat} {e : TypeId} {size : Nat} {v : Value} {n : Nat} {xs : List Value} (h : CupX w base e size v n xs) (hb : base' ≤ base) : CupX w base' e size v n xs := by
  rcases h with h | h
  · exact .inl (h.mono hb)
  · exact .inr h
theorem CupX.apart {w w' : World} {B : Nat} {e : TypeId} {size n m c : Nat} {xs ys : List Value} {u : Value} {a : Option Addr} (h : VCup B e size n xs u w) (k : CupX w' w.heap.size e size (.slice a m c) m ys) :
    xs = [] ∨ ys = [] ∨ ∀ k, u.ownBlock = some k → (Value.slice a m c).ownBlock ≠ some k := by
  by_cases hx : xs = []
  · exact .inl hx
  by_cases hy : ys = []
  · exact .inr (.inl hy)
  refine .inr (.inr fun q h1 h2 => ?_)
  obtain ⟨a5, c5, rfl, h5⟩ := h
  cases a5 with
  | none => simp [Value.ownBlock] at h1
  | some ad =>
    cases a with
    | none => simp [Value.ownBlock] at h2
    | some ae =>
      have e1 := (h5.addr hx ad rfl).2
      have e2 := (k.addr hy ae rfl).1
      simp [Value.ownBlock] at h1 h2
      omega

theorem gb_setCells {w0 : World} {B : Nat} : ∀ (vs : List Value) (o : Nat) (w : World), w0.grownBy w (some B) → w0.grownBy (w.setCells B o vs) (some B)
  | [], _, _, h => h
  | v :: vs, o, w, h => gb_setCells vs (o + 1) _ (gb_setCell h o v)
theorem CupX.setCellsFar {w : World} {base : Nat} {e t : TypeId} {size : Nat} {a : Option Addr} {n m c B : Nat} {xs cs : List Value} (h : CupX w base e size (.slice a m c) n xs) (hb : Blk w B t cs) (ht : e ≠ t) (vs : List Value) : CupX (w.setCells B 0 vs) base e size (.slice a m c) n xs := by
  by_cases hx : xs = []
  · rcases h with h | h
    · refine .inl (h.kept (row := some B) (gb_setCells _ _ _ (World.grownBy.refl _ _)) ?_)
      cases a with
      | none => left; rfl
      | some ad =>
        right
        intro e'
        simp only [Value.ownBlock, Option.some.injEq] at e'
        rcases h.2 with ⟨h1, _⟩ | ⟨g, cap, cur, h1, _, h2, _⟩
        · cases h1
        · cases h1
          simp only at e'
          subst e'
          have := h2.symm.trans hb
          simp at this
          exact ht this.2
    · exact .inr h
  · have hne := h.ne_blk hb ht hx
    rcases h with h | h
    · refine .inl (h.kept (row := some B) (gb_setCells _ _ _ (World.grownBy.refl _ _)) ?_)
      cases a with
      | none => left; rfl
      | some ad =>
        right
        intro e'
        simp only [Value.ownBlock, Option.some.injEq] at e'
        exact hne ad rfl e'
    · exact .inr h
/-- A result: an id, an error. -/
def IdR (e : Ending) (dv : List Value) (de : Int) : Prop := e = .returned (.tuple #[.agg dv.toArray, .int .i64 de])
theorem endM_len (hs rs : List Int) (N : Int) : (endM hs rs N).1.length = 32 := by
  unfold endM
  split
  · simp
  · simp only [endL_len]
theorem infoM : (Tryd.prog.info? 95).map (·.size) = some 10 := by kernel_rfl

theorem addM_rest (hs rs ys : List Int) (N : Int) : (addM hs rs N ys).2.1.length ≤ rs.length + ys.length := by
  unfold addM
  split
  · simp
  · split
    · simp
    · simp only [List.length_drop, List.length_append]; omega

theorem Bytes8.set {l : List Int} (h : Bytes8 l) (i : Nat) (x : Int) (hx : 0 ≤ x ∧ x < 256) : Bytes8 (l.set i x) := fun y hy => by
  rcases List.mem_or_eq_of_mem_set hy with h1 | h1
  · exact h y h1
  · subst h1; exact hx
def RowU (w : World) (B e : Nat) (a : Option Addr) (n c : Nat) : Prop := 0 < n → ∃ ys : List Int, ys.length = n ∧ Bytes8 ys ∧ OwnX w B e 1 (.slice a n c) n (ys.map (Value.int .u8))
theorem gb_row {w w1 : World} {b : Nat} {a : Option Addr} {xs : List Int} (hc : CellsAt w a (xs.map (Value.int .u8))) (h : w.grownBy w1 (some b)) (hne : xs ≠ [] → ∀ ad, a = some ad → ad.block ≠ b) : CellsAt w1 a (xs.map (Value.int .u8)) := by
  by_cases hx : xs = []
  · subst hx; exact .inl rfl
  · exact gb_cells h hc (hne hx)

end Go.Proofs.YtfabcdpmnbeflaaDoor
