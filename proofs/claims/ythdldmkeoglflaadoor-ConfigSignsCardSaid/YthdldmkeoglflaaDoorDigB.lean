/- DigB: DigGround, DigBlocks, DigTail. -/
import Derived.Test.YthdldmkeoglflaaDoorDigA
/- The reference's grinding of a block. -/
namespace Go.Proofs.YthdldmkeoglflaaDoor
set_option maxRecDepth 100000
set_option linter.unusedSimpArgs false
set_option linter.unusedVariables false
set_option linter.unnecessarySimpa false
open Go.RowKit

end Go.Proofs.YthdldmkeoglflaaDoor

/- The reference's First, blocks, Valid. -/
namespace Go.Proofs.YthdldmkeoglflaaDoor
set_option maxRecDepth 100000
set_option linter.unusedSimpArgs false
set_option linter.unusedVariables false
set_option linter.unnecessarySimpa false
open Go.RowKit

def v0c : V8 := ⟨1779033703, 3144134277, 1013904242, 2773480762, 1359893119, 2600822924, 528734635, 1541459225⟩
theorem v0c_ok : v0c.ok := by simp only [V8.ok, v0c]; omega
theorem start_any (w : World) :
    Calls Tryd.prog 118 #[] w fun e w' =>
      e = .returned (.agg #[.int .u32 v0c.a, .int .u32 v0c.b, .int .u32 v0c.c, .int .u32 v0c.d, .int .u32 v0c.e, .int .u32 v0c.f, .int .u32 v0c.g, .int .u32 v0c.z, .slice none 0 0, .int .i64 0]) ∧ Below w.heap.size w w' := by
  go_enter Tryd.func118, Tryd.ntmps118
  have hb0 := Below.refl w.heap.size w
  go_wp2_with fail
  exact bodyPost_ret (v := .agg #[.int .u32 1779033703, .int .u32 3144134277, .int .u32 1013904242, .int .u32 2773480762, .int .u32 1359893119, .int .u32 2600822924, .int .u32 528734635, .int .u32 1541459225, .slice none 0 0, .int .i64 0]) (by simp [results, Tryd.results118, go_sem]) rfl ⟨rfl, (by repeat' (first | with_reducible exact hb0 | with_reducible refine Below.drew ?_ | with_reducible refine below_drewN ?_ _ | with_reducible refine Below.alloc ?_ (by have := hb0.size; first | (simp; done) | (simp; omega) | omega) _ | with_reducible refine Below.setCell ?_ (by first | (simp; done) | (simp; omega) | omega) _))⟩
/-- Whether a mill is valid. -/
def vdB (N : Int) (n : Nat) : Bool := decide (0 ≤ N ∧ N ≤ 200000 ∧ (n : Int) = N % 64)
theorem slice_mid {P : Program} {t : TypeId} (ht : P.underlying t = some (.slice (P.elem t))) (hsz : ∀ w, (sizeOf (P.elem t)).run P w = .ok 1 w) (b o len cap lo hi : Nat) (h1 : lo < hi) (h2 : hi ≤ cap) :
    ∀ w', (Instr.slice t (.slice (some ⟨b, o, none⟩) len cap) (some (.int .i64 lo)) (some (.int .i64 hi)) none).run P w' = .ok (.slice (some ⟨b, o + lo, none⟩) (hi - lo) (cap - lo)) w' := fun w' => by
  rw [run_slice_lh w' t _ _ _ ht .i64 .i64 lo hi (by omega) (by omega) (by omega), hsz]
  simp [Result.andThen, sliced, show ¬ (cap = lo) by omega, Addr.add_lit]

end Go.Proofs.YthdldmkeoglflaaDoor

/- What comes behind the bytes. -/
namespace Go.Proofs.YthdldmkeoglflaaDoor
set_option maxRecDepth 100000
set_option linter.unusedSimpArgs false
set_option linter.unusedVariables false
set_option linter.unnecessarySimpa false
open Go.RowKit

/-- The first k of the eight bytes of a number. -/
def dlb (x : Int) : Nat → List Int
  | 0 => []
  | k + 1 => dlb x k ++ [x / 2 ^ (56 - 8 * k) % 256]
theorem lb_len (x : Int) : ∀ k, (dlb x k).length = k
  | 0 => rfl
  | k + 1 => by rw [dlb, List.length_append, lb_len x k]; rfl
theorem lb_bytes (x : Int) : ∀ k, Bytes8 (dlb x k)
  | 0 => fun y hy => by cases hy
  | k + 1 => (lb_bytes x k).append fun y hy => by rw [List.mem_singleton.1 hy]; omega
def zn (n : Nat) : Nat := (119 - n % 64) % 64
def tailL (n : Nat) : List Int := 128 :: List.replicate (zn n) 0 ++ dlb (8 * n) 8
theorem tailL_len (n : Nat) : (tailL n).length = 9 + zn n := by unfold tailL; simp [lb_len]; omega
theorem tailL_bytes (n : Nat) : Bytes8 (tailL n) := by
  unfold tailL
  refine Bytes8.append (fun y hy => ?_) (lb_bytes _ _)
  rcases List.mem_cons.1 hy with rfl | h
  · omega
  · rw [(List.mem_replicate.1 h).2]; omega
theorem zn_eq (n z : Nat) (h : z < 64) (h2 : (n + (1 + z) + 8) % 64 = 0) : z = zn n := by unfold zn; omega
theorem zn_ne (n z : Nat) (h : z < zn n) : (n + (1 + z) + 8) % 64 ≠ 0 := by unfold zn at h; omega
theorem zn_at (n : Nat) : (n + (1 + zn n) + 8) % 64 = 0 := by unfold zn; omega
theorem zn_lt (n : Nat) : zn n < 64 := by unfold zn; omega

/-- The digest of words, its first i bytes written. -/
def wr32 (l : List Int) : Nat → List Int
  | 0 => List.replicate 32 0
  | i + 1 => (wr32 l i).set i (l[i / 4]?.getD 0 / 2 ^ (24 - 8 * (i % 4)) % 256)
theorem wr32_len (l : List Int) : ∀ i, (wr32 l i).length = 32
  | 0 => List.length_replicate ..
  | i + 1 => by rw [wr32, List.length_set]; exact wr32_len l i
theorem wr32_bytes (l : List Int) : ∀ i, Bytes8 (wr32 l i)
  | 0 => fun y hy => by rw [(List.mem_replicate.1 hy).2]; omega
  | i + 1 => fun y hy => by
    rcases List.mem_or_eq_of_mem_set hy with h1 | h1
    · exact wr32_bytes l i y h1
    · subst h1; omega
theorem info32 : (Tryd.prog.info? 138).map (·.size) = some 32 := by kernel_rfl

end Go.Proofs.YthdldmkeoglflaaDoor
