/- DigestOn: what came in; the walk as the frame wants it. -/
import Derived.Test.YtlilodfddojlhaaDoorDigOnW
import Derived.Test.YtlilodfddojlhaaDoorDigCard
namespace Go.Proofs.YtlilodfddojlhaaDoor
open Go.RowKit Go.Joins Go.ChangeShapes Go.WideShapes Go.ChangeAt
set_option linter.unusedVariables false

/-- Bytes that came in: they are no longer than their room. -/
theorem open_bytesC {H : Type} {enc : TypeId × Value → H} {w : World} {r : Reach} {b0 base : Nat} {held : Bool} {v : Value} {d : DataW H} {p : List MemPlace}
    (hv : Value.okWide Tryd.prog w r b0 24 v) (h : DataW.Trod enc Tryd.prog w base (fun _ => true) held 24 v d p) :
    ∃ (bs : List Int) (a : Option Addr) (c : Nat), v = .slice a bs.length c ∧ BytesC w a c bs := by
  obtain ⟨bs, a, c, rfl, hb⟩ := open_bytes8 hv h
  refine ⟨bs, a, c, rfl, hb, ?_⟩
  obtain ⟨fuel, hf⟩ := h
  rcases Go.Deep.open_slice Tryd.underlying24 hf with ⟨hcs, _⟩ | ⟨a', len, cap, m, n, D, Pl, hcs, _, hl, _⟩
  · have h1 : Value.slice a bs.length c = Value.slice none 0 0 := (List.cons.inj hcs).1
    injection h1 with _ h2 h3
    omega
  · have h1 : Value.slice a bs.length c = Value.slice (some a') len cap := (List.cons.inj hcs).1
    injection h1 with _ h2 h3
    omega
theorem on_full (v : V8) (n : Int) (xs : List Int) (xa : Option Addr) (xc : Nat) (ys : List Int) (ya : Option Addr) (yc : Nat) (w : World) (hv : v.ok) (hn : (Lit.int .i64 n).wf = true) (hx : BytesC w xa xc xs) (hy : BytesC w ya yc ys)
    (hK : CellsAt w (some ⟨0, 0, none⟩) (kcs.map (Value.int .u32)) ∧ 0 < w.heap.size) :
    Calls Tryd.prog 7 #[.agg #[.int .u32 v.a, .int .u32 v.b, .int .u32 v.c, .int .u32 v.d, .int .u32 v.e, .int .u32 v.f, .int .u32 v.g, .int .u32 v.z], .int .i64 n, .slice xa xs.length xc, .slice ya ys.length yc] w fun e w' =>
      e = .returned (.bool true) ∧ Below w.heap.size w w' := on_walk v hv n xs ys xa ya xc yc w hn hx hy hK.1 hK.2

end Go.Proofs.YtlilodfddojlhaaDoor
