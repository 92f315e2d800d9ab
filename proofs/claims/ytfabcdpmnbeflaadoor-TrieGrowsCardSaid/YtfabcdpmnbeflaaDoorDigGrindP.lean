/- Rounds on words, as plain data; worlds in which one block alone is written. -/
import Derived.Test.YtfabcdpmnbeflaaDoorDigSched
namespace Go.Proofs.YtfabcdpmnbeflaaDoor
set_option maxRecDepth 100000
open Go.RowKit

/-- The constants of the rounds. -/
def kcs : List Int := [1116352408, 1899447441, 3049323471, 3921009573, 961987163, 1508970993, 2453635748, 2870763221, 3624381080, 310598401, 607225278, 1426881987, 1925078388, 2162078206, 2614888103, 3248222580, 3835390401, 4022224774, 264347078, 604807628, 770255983, 1249150122, 1555081692, 1996064986, 2554220882, 2821834349, 2952996808, 3210313671, 3336571891, 3584528711, 113926993, 338241895, 666307205, 773529912, 1294757372, 1396182291, 1695183700, 1986661051, 2177026350, 2456956037, 2730485921, 2820302411, 3259730800, 3345764771, 3516065817, 3600352804, 4094571909, 275423344, 430227734, 506948616, 659060556, 883997877, 958139571, 1322822218, 1537002063, 1747873779, 1955562222, 2024104815, 2227730452, 2361852424, 2428436474, 2756734187, 3204031479, 3329325298]
theorem kcs_len : kcs.length = 64 := rfl
structure V8 where
  a : Int
  b : Int
  c : Int
  d : Int
  e : Int
  f : Int
  g : Int
  z : Int
def V8.list (v : V8) : List Int := [v.a, v.b, v.c, v.d, v.e, v.f, v.g, v.z]
def V8.of (l : List Int) : V8 := ⟨l[0]?.getD 0, l[1]?.getD 0, l[2]?.getD 0, l[3]?.getD 0, l[4]?.getD 0, l[5]?.getD 0, l[6]?.getD 0, l[7]?.getD 0⟩
def V8.ok (v : V8) : Prop := (0 ≤ v.a ∧ v.a < 4294967296) ∧ (0 ≤ v.b ∧ v.b < 4294967296) ∧ (0 ≤ v.c ∧ v.c < 4294967296) ∧ (0 ≤ v.d ∧ v.d < 4294967296) ∧ (0 ≤ v.e ∧ v.e < 4294967296) ∧ (0 ≤ v.f ∧ v.f < 4294967296) ∧ (0 ≤ v.g ∧ v.g < 4294967296) ∧ (0 ≤ v.z ∧ v.z < 4294967296)
def chF (e f g : Int) : Int := bits BinOp.xor IntKind.u32 (bits BinOp.and IntKind.u32 e f) (bits BinOp.and IntKind.u32 (bits BinOp.xor IntKind.u32 4294967295 e) g)
def maF (a b c : Int) : Int := bits BinOp.xor IntKind.u32 (bits BinOp.xor IntKind.u32 (bits BinOp.and IntKind.u32 a b) (bits BinOp.and IntKind.u32 a c)) (bits BinOp.and IntKind.u32 b c)
def V8.p (v : V8) (k w : Int) : Int := (v.z + mixF v.e 6 11 25 + chF v.e v.f v.g + k + w) % 4294967296
theorem V8.p_eq (a b c d e f g z k x : Int) : ((z + mixF e 6 11 25 + bits BinOp.xor IntKind.u32 (bits BinOp.and IntKind.u32 e f) (bits BinOp.and IntKind.u32 (bits BinOp.xor IntKind.u32 4294967295 e) g) + k) % 4294967296 + x) % 4294967296 = V8.p ⟨a, b, c, d, e, f, g, z⟩ k x := by
  unfold V8.p chF
  simp only
  omega
def V8.q (v : V8) : Int := (mixF v.a 2 13 22 + maF v.a v.b v.c) % 4294967296
def V8.rnd (v : V8) (k w : Int) : V8 := ⟨(v.p k w + v.q) % 4294967296, v.a, v.b, v.c, (v.d + v.p k w) % 4294967296, v.e, v.f, v.g⟩
def vAt (v : V8) (ws : List Int) : Nat → V8
  | 0 => v
  | t + 1 => (vAt v ws t).rnd (kcs[t]?.getD 0) (ws[t]?.getD 0)
theorem V8.rnd_ok {v : V8} (h : v.ok) (k w : Int) : (v.rnd k w).ok := by
  obtain ⟨h1, h2, h3, h4, h5, h6, h7, h8⟩ := h
  refine ⟨?_, h1, h2, h3, ?_, h5, h6, h7⟩
  · show 0 ≤ (v.p k w + v.q) % 4294967296 ∧ (v.p k w + v.q) % 4294967296 < 4294967296
    omega
  · show 0 ≤ (v.d + v.p k w) % 4294967296 ∧ (v.d + v.p k w) % 4294967296 < 4294967296
    omega
theorem vAt_ok {v : V8} (h : v.ok) (ws : List Int) : ∀ t, (vAt v ws t).ok
  | 0 => h
  | t + 1 => V8.rnd_ok (vAt_ok h ws t) _ _
theorem V8.of_ok {l : List Int} (h : Rng32 l) : (V8.of l).ok := ⟨h.at 0, h.at 1, h.at 2, h.at 3, h.at 4, h.at 5, h.at 6, h.at 7⟩
theorem V8.list_len (v : V8) : v.list.length = 8 := rfl
theorem V8.ok.list {v : V8} (h : v.ok) : Rng32 v.list := by
  obtain ⟨h1, h2, h3, h4, h5, h6, h7, h8⟩ := h
  intro x hx
  simp only [V8.list, List.mem_cons, List.not_mem_nil, or_false] at hx
  rcases hx with rfl | rfl | rfl | rfl | rfl | rfl | rfl | rfl <;> assumption
/-- The first i words with those of vs added. -/
def addUp (hs vs : List Int) : Nat → List Int
  | 0 => hs
  | i + 1 => (addUp hs vs i).set i (((addUp hs vs i)[i]?.getD 0 + vs[i]?.getD 0) % 4294967296)
theorem addUp_len (hs vs : List Int) : ∀ i, (addUp hs vs i).length = hs.length
  | 0 => rfl
  | i + 1 => by rw [addUp, List.length_set]; exact addUp_len hs vs i
theorem addUp_rng {hs vs : List Int} (h : Rng32 hs) : ∀ i, Rng32 (addUp hs vs i)
  | 0 => h
  | i + 1 => (addUp_rng h i).set _ (by omega)
/-- The words after a block was ground. -/
def ground (hs bs : List Int) : List Int := addUp hs (vAt (V8.of hs) (arw bs 48) 64).list 8
theorem ground_len (hs bs : List Int) : (ground hs bs).length = hs.length := addUp_len _ _ _
theorem ground_rng {hs : List Int} (h : Rng32 hs) (bs : List Int) : Rng32 (ground hs bs) := addUp_rng h _

section
variable {w w1 w2 : World} {H : Nat}
theorem gb_of_below (h : Below w.heap.size w w1) (H : Nat) : w.grownBy w1 (some H) := ⟨h.os, h.tape, h.output, h.size, fun k hk _ => h.block k hk⟩
theorem gb_trans (h : w.grownBy w1 (some H)) (k : w1.grownBy w2 (some H)) : w.grownBy w2 (some H) :=
  ⟨k.os.trans h.os, k.tape.trans h.tape, k.output.trans h.output, Nat.le_trans h.size k.size, fun j hj hne => (k.block j (Nat.lt_of_lt_of_le hj h.size) hne).trans (h.block j hj hne)⟩
theorem gb_drew (h : w.grownBy w1 (some H)) : w.grownBy w1.drew (some H) := ⟨h.os, h.tape, h.output, h.size, h.block⟩
theorem gb_setCell (h : w.grownBy w1 (some H)) (i : Nat) (v : Value) : w.grownBy (w1.setCell ⟨H, i, none⟩ v) (some H) := by
  have e : (w1.setCell ⟨H, i, none⟩ v).heap.size = w1.heap.size := by simp
  exact ⟨h.os, h.tape, h.output, by rw [e]; exact h.size, fun j hj hne => (Below.heap_setCell _ _ _ _ (fun hh => hne (congrArg some hh))).trans (h.block j hj hne)⟩
theorem gb_alloc (h : w.grownBy w1 (some H)) (o : Obj) : w.grownBy (w1.alloc o) (some H) := gb_trans h (World.grownBy_alloc _ _ _)
theorem gb_blk (h : w.grownBy w1 (some H)) {B : Nat} {t : TypeId} {cs : List Value} (hb : Blk w B t cs) (hne : B ≠ H) : Blk w1 B t cs := (h.block B hb.lt (fun e => hne (Option.some.inj e))).trans hb
theorem gb_cells (h : w.grownBy w1 (some H)) {a : Option Addr} {cs : List Value} (hc : CellsAt w a cs) (hne : ∀ ad, a = some ad → ad.block ≠ H) : CellsAt w1 a cs := by
  rcases hc with hc | ⟨b, o, rfl, hc⟩
  · exact .inl hc
  · refine .inr ⟨b, o, rfl, fun j u hj => ?_⟩
    exact h.cell (hc j u hj) (fun e => hne _ rfl (Option.some.inj e))
theorem gb_below {B : Nat} {a : World} (h : w.grownBy w1 (some H)) (hb : Below B a w) (hB : B ≤ w.heap.size) (hH : B ≤ H) : Below B a w1 := hb.grown h hB (fun k hk => by cases hk; exact hH)
end

end Go.Proofs.YtfabcdpmnbeflaaDoor
