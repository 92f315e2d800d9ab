/- Add, of the program and of the reference. -/
import Derived.Test.YtfabcdpmnbeflaaDoorDigTail
import Derived.Test.YtfabcdpmnbeflaaDoorQTail
namespace Go.Proofs.YtfabcdpmnbeflaaDoor
set_option maxRecDepth 100000
set_option linter.unusedSimpArgs false
set_option linter.unusedVariables false
set_option linter.unnecessarySimpa false
open Go.RowKit

/-- What Add returns: the words, the rest, the count, the error. -/
def addM (hs rs : List Int) (N : Int) (ys : List Int) : List Int × List Int × Int × Int :=
  if vdB N rs.length = false then (List.replicate 8 0, [], 0, 8) else if 200000 - N < (ys.length : Int) then (List.replicate 8 0, [], 0, 4) else (mill hs (rs ++ ys), (rs ++ ys).drop ((rs ++ ys).length / 64 * 64), N + ys.length, 0)
def MillR (B : Nat) (w : World) (e : Ending) (r : List Int × List Int × Int × Int) : Prop :=
  ∃ (u : V8) (a : Option Addr) (m c : Nat), e = .returned (.tuple #[.agg #[.int .u32 u.a, .int .u32 u.b, .int .u32 u.c, .int .u32 u.d, .int .u32 u.e, .int .u32 u.f, .int .u32 u.g, .int .u32 u.z, .slice a m c, .int .i64 r.2.2.1], .int .i64 r.2.2.2]) ∧ u.list = r.1 ∧ m = r.2.1.length ∧ CellsAt w a (r.2.1.map (Value.int .u8)) ∧ (r.2.1 ≠ [] → ∀ ad, a = some ad → B ≤ ad.block)
theorem slice_from_any {P : Program} {t : TypeId} (ht : P.underlying t = some (.slice (P.elem t))) (hsz : ∀ w, (sizeOf (P.elem t)).run P w = .ok 1 w) (a : Option Addr) (len cap : Nat) (k : Nat) (hk : k ≤ len) (hc : len ≤ cap) :
    ∃ a' : Option Addr, (∀ w', (Instr.slice t (.slice a len cap) (some (.int .i64 k)) none none).run P w' = .ok (.slice a' (len - k) (cap - k)) w') ∧ (∀ w cs, CellsAt w a cs → cs.length = len → CellsAt w a' (cs.drop k)) ∧ (∀ ad', a' = some ad' → ∃ ad, a = some ad ∧ ad'.block = ad.block) := by
  refine ⟨if cap = k then a else a.map (·.add (k * 1)), fun w' => ?_, fun w cs h hl => ?_, fun ad' e => ?_⟩
  · rw [run_slice_l w' t _ _ _ ht .i64 k (by omega) (by omega), hsz]
    simp [Result.andThen, sliced]
  · by_cases c : cap = k
    · rw [if_pos c]; left; rw [List.drop_eq_nil_iff]; omega
    · rw [if_neg c]
      rcases h with rfl | ⟨b, o, rfl, h⟩
      · left; simp
      · have := CellsAt.dropK (w := w) (b := b) (o := o) (cs := cs) (.inr ⟨b, o, rfl, h⟩) k
        simpa [Addr.add_lit] using this
  · by_cases c : cap = k
    · rw [if_pos c] at e; exact ⟨ad', e, rfl⟩
    · rw [if_neg c] at e
      rcases a with _ | ad
      · cases e
      · cases e; exact ⟨ad, rfl, by unfold Addr.add; split <;> rfl⟩
theorem MillR.zero (B : Nat) (w : World) (er : Int) : MillR B w (.returned (.tuple #[.agg #[.int .u32 0, .int .u32 0, .int .u32 0, .int .u32 0, .int .u32 0, .int .u32 0, .int .u32 0, .int .u32 0, .slice none 0 0, .int .i64 0], .int .i64 er])) (List.replicate 8 0, [], 0, er) :=
  ⟨⟨0, 0, 0, 0, 0, 0, 0, 0⟩, none, 0, 0, rfl, rfl, rfl, .inl rfl, fun _ ad e => by cases e⟩

theorem V8.inj {u v : V8} (h : u.list = v.list) : u = v := by
  obtain ⟨a, b, c, d, e, f, g, z⟩ := u
  obtain ⟨a', b', c', d', e', f', g', z'⟩ := v
  simp only [V8.list, List.cons.injEq, and_true] at h
  obtain ⟨h1, h2, h3, h4, h5, h6, h7, h8⟩ := h
  subst h1 h2 h3 h4 h5 h6 h7 h8
  rfl
theorem blocks_v (u v : V8) (bs : List Int) (a : Option Addr) (n c : Nat) (w : World) (hv : v.ok) (hn : n = bs.length) (hnc : n ≤ c) (hb63 : n ≤ 140737488355328) (hc : CellsAt w a (bs.map (Value.int .u8))) (hb : Bytes8 bs) (hu : u.list = mill v.list bs) :
    Calls Tryd.prog 68 #[.agg #[.int .u32 v.a, .int .u32 v.b, .int .u32 v.c, .int .u32 v.d, .int .u32 v.e, .int .u32 v.f, .int .u32 v.g, .int .u32 v.z], .slice a n c] w fun e w' =>
      e = .returned (.agg #[.int .u32 u.a, .int .u32 u.b, .int .u32 u.c, .int .u32 u.d, .int .u32 u.e, .int .u32 u.f, .int .u32 u.g, .int .u32 u.z]) ∧ Below w.heap.size w w' :=
  (blocks_any v bs a n c w hv hn hnc hb63 hc hb).mono fun e w' ⟨u', he, hu', hb⟩ => by
    rw [V8.inj (hu'.trans hu.symm)] at he
    exact ⟨he, hb⟩

end Go.Proofs.YtfabcdpmnbeflaaDoor
