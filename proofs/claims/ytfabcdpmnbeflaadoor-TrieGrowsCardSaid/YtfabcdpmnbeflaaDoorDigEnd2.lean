/- The exported End, of the program and of the reference. -/
import Derived.Test.YtfabcdpmnbeflaaDoorDigEnd
import Derived.Test.YtfabcdpmnbeflaaDoorRegSpec
namespace Go.Proofs.YtfabcdpmnbeflaaDoor
set_option maxRecDepth 100000
set_option linter.unusedSimpArgs false
set_option linter.unusedVariables false
set_option linter.unnecessarySimpa false
open Go.RowKit

section
variable {P : Program}
theorem results_blk2 {fn : Func} {p q : Tmp} {ty : TypeId} (h : fn.results = #[.cell p ty, .tmp q]) (tmps : Array Value) (w : World) (B : Nat) (t : TypeId) (cs : List Value) (d : TypeDesc) (u : Value)
    (hp : tmps.getD p undef = .pointer (some ⟨B, 0, none⟩)) (hq : tmps.getD q undef = u) (hg : Blk w B t cs)
    (hu : P.underlying ty = some d) (hd : (match d with | .struct _ | .array _ _ => true | _ => false) = true) (hi : (P.info? ty).map (·.size) = some cs.length) :
    (results fn tmps).run P w = .ok (.tuple #[.agg cs.toArray, u]) w := by
  have hp' : tmps[p]?.getD undef = .pointer (some ⟨B, 0, none⟩) := by simpa using hp
  have hq' : tmps[q]?.getD undef = u := by simpa using hq
  simp [results, h, hp', hq', asAddr, run_loadVar_row w B t ty cs.toArray (0, 0) d hg hu hd (by simpa using hi)]
end
/-- What End returns: the id, the error. -/
def endM (hs rs : List Int) (N : Int) : List Int × Int := if vdB N rs.length = false then (List.replicate 32 0, 8) else (endL hs rs N.toNat, 0)
/-- Such a result. -/
def idE (r : List Int × Int) : Ending := .returned (.tuple #[.agg (r.1.map (Value.int .u8)).toArray, .int .i64 r.2])

theorem idE_mk (l : List Int) (er : Int) : idE (l, er) = .returned (.tuple #[.agg (l.map (Value.int .u8)).toArray, .int .i64 er]) := rfl

theorem info32r : (Tryd.prog.info? 24).map (·.size) = some (List.replicate 32 (Value.int .u8 0)).length := by kernel_rfl
theorem oneCell_zeros : ∀ v ∈ List.replicate 32 (Value.int .u8 0), v.oneCell' = true := fun v hv => by rw [(List.mem_replicate.1 hv).2]; rfl

end Go.Proofs.YtfabcdpmnbeflaaDoor
