/- What comes into the laws of sign: a signature, a message. -/
import Derived.Test.YtdlacedminebdaaDoorSignAny
namespace Go.Proofs.YtdlacedminebdaaDoor
set_option linter.unusedSimpArgs false
set_option linter.unusedVariables false
set_option linter.unnecessarySimpa false
open Go.ChangeShapes Go.WideShapes Go.ChangeAt Go.RowKit

theorem cells_sig : Tryd.prog.cellsOf 25 = 2 := by kernel_rfl
structure SigIn (E S : Int) : Prop where
  e : (Lit.int .u32 E).wf = true
  s : (Lit.int .u32 S).wf = true
theorem open_sig {H : Type} {enc : TypeId × Value → H} {w : World} {r : Reach} {b0 base : Nat} {held : Bool} {v : Value} {d : DataW H} {p : List MemPlace}
    (hv : Value.okWide Tryd.prog w r b0 25 v) (h : DataW.Trod enc Tryd.prog w base (fun _ => true) held 25 v d p) :
    ∃ E S : Int, v = .agg #[.int .u32 E, .int .u32 S] ∧ SigIn E S := by
  obtain ⟨cs, rfl, hs⟩ := okWide_struct Tryd.underlying25 hv
  rw [cells_sig] at hs
  obtain ⟨fuel, hf⟩ := h
  obtain ⟨xs, n, rfl, _, _, hxl, hfl⟩ := DataW.trod_struct Tryd.underlying25 hf
  have f0 := hfl 0 _ rfl
  have f1 := hfl 1 _ rfl
  simp only [Value.cells] at f0 f1
  obtain ⟨l, rfl⟩ : ∃ l : List Value, cs = l.toArray := ⟨cs.toList, by simp⟩
  simp only [List.size_toArray] at hs
  match l, hs with
  | [c0, c1], _ =>
    simp at hxl
    match xs, hxl with
    | [x0, x1], _ =>
      obtain ⟨E, e0, _, w0⟩ := DataW.trod_int (k := .u32) Tryd.underlying22 f0
      obtain ⟨S, e1, _, w1⟩ := DataW.trod_int (k := .u32) Tryd.underlying22 f1
      simp [cells_u32] at e0 e1
      subst e0 e1
      exact ⟨E, S, rfl, w0, w1⟩
theorem BytesIn.msg {w : World} {a : Option Addr} {bs : List Int} (h : BytesIn w a bs) : MsgIn w a bs.length bs := ⟨rfl, h.cells, h.bytes⟩

end Go.Proofs.YtdlacedminebdaaDoor
