/-
  NARROWER THAN 'FOR EVERY INPUT', by the rows' own cells (each row's printed sentence says how): SignVerifies: laid · SignMakes: laid · SignNames: laid · SignRight: laid · SignMade: laid · SignKeys: laid · SignTells: laid.
  DERIVED. THE GIVEN ROWS OF THIS SEAT. 7 by the template 'for every input the law returns true; each argument reads behind the call as it read before'; 0 by the template 'total and deterministic' (their statements: YtdlacedminebdaaDoorTotals.lean).
  GIVEN WITH THE SEED: the statements are not yours to turn. If you find one false, say at which input.
  Laid BY PROGRAM, IN A SANDBOX (cutbox-rows.mjs): the forced cells as the released guide's own fill.sh prints them over the translation 72c673d3012d9baa… (all of the seat's roots in one cut). By AI agents, Wed Nov 11 2026. No macro, syntax, notation, axiom, sorry.
-/
import Derived.Test.YtdlacedminebdaaDoorChecked
import GoSem.Claim
import GoSem.ClaimJoined
import GoSem.ClaimMapViews
import Derived.JoinedTies
import Derived.KernelRfl
namespace Go.Proofs.YtdlacedminebdaaDoor
/- THE CELL 'sum', in the pinned program and in every row, IS THE sha256 OF THE DUMP (.gsa) THAT YtdlacedminebdaaDoorProg.lean LOADS. Nothing in Lean hashes anything: it is a label: what it is worth is what the hold of that sum in a sandbox is worth. -/
noncomputable def Tryd.pinned : Pinned := { name := "ytdlacedminebdaadoor", sum := "72c673d3012d9baab6e200c510bc9ee311f5f3af06e70b2754281e3389bfa7d7", checked := Tryd.checked }
namespace Rows
def none {H : Type} : Left H := { results := [], args := [] }

/- WHAT THE LISTED PACKAGE-LEVEL VARIABLES READ AS WHEN THE CALL BEGINS. Each datum BY PROGRAM (the guide's laid-datum.mjs) off the statement by which the dump's own 'gosem.cut.vars' lays the variable. In a bare row this is a premise. The card (YtdlacedminebdaaDoorCards.lean) ties it to the program's text. -/
def laid_braid_digest_constants {H : Type} : DataW H := .agg [.lit (.int .u32 1116352408), .lit (.int .u32 1899447441), .lit (.int .u32 3049323471), .lit (.int .u32 3921009573), .lit (.int .u32 961987163), .lit (.int .u32 1508970993), .lit (.int .u32 2453635748), .lit (.int .u32 2870763221), .lit (.int .u32 3624381080), .lit (.int .u32 310598401), .lit (.int .u32 607225278), .lit (.int .u32 1426881987), .lit (.int .u32 1925078388), .lit (.int .u32 2162078206), .lit (.int .u32 2614888103), .lit (.int .u32 3248222580), .lit (.int .u32 3835390401), .lit (.int .u32 4022224774), .lit (.int .u32 264347078), .lit (.int .u32 604807628), .lit (.int .u32 770255983), .lit (.int .u32 1249150122), .lit (.int .u32 1555081692), .lit (.int .u32 1996064986), .lit (.int .u32 2554220882), .lit (.int .u32 2821834349), .lit (.int .u32 2952996808), .lit (.int .u32 3210313671), .lit (.int .u32 3336571891), .lit (.int .u32 3584528711), .lit (.int .u32 113926993), .lit (.int .u32 338241895), .lit (.int .u32 666307205), .lit (.int .u32 773529912), .lit (.int .u32 1294757372), .lit (.int .u32 1396182291), .lit (.int .u32 1695183700), .lit (.int .u32 1986661051), .lit (.int .u32 2177026350), .lit (.int .u32 2456956037), .lit (.int .u32 2730485921), .lit (.int .u32 2820302411), .lit (.int .u32 3259730800), .lit (.int .u32 3345764771), .lit (.int .u32 3516065817), .lit (.int .u32 3600352804), .lit (.int .u32 4094571909), .lit (.int .u32 275423344), .lit (.int .u32 430227734), .lit (.int .u32 506948616), .lit (.int .u32 659060556), .lit (.int .u32 883997877), .lit (.int .u32 958139571), .lit (.int .u32 1322822218), .lit (.int .u32 1537002063), .lit (.int .u32 1747873779), .lit (.int .u32 1955562222), .lit (.int .u32 2024104815), .lit (.int .u32 2227730452), .lit (.int .u32 2361852424), .lit (.int .u32 2428436474), .lit (.int .u32 2756734187), .lit (.int .u32 3204031479), .lit (.int .u32 3329325298)]

/-- 'braidlaw03.SignVerifies': WHATEVER THE INPUT: true; the input reads as it did. -/
def signVerifiesSpec : ChangeSpec := { name := "signVerifies", fn := fun _ => fun
  | [d1, d2, d3] => { results := [.lit (.bool true)], args := [d1, d2, d3] }
  | _ => none }
def signVerifiesRow : OpenClaim := { program := "ytdlacedminebdaadoor", sum := "72c673d3012d9baab6e200c510bc9ee311f5f3af06e70b2754281e3389bfa7d7", func := "braid/braidlaw03.SignVerifies", spec := "signVerifies", unfollowed := true, recurses := true, named := ["braid/digest.constants"], apart := false, laid := [("braid/digest.constants", laid_braid_digest_constants)] }
def SignVerifiesSaid : Prop := signVerifiesRow.holds Tryd.pinned (OpenSpec.ofChange signVerifiesSpec)

/-- ITS FALSE NEIGHBOUR: 'it returns false'. Refute it at one input. -/
def signVerifiesWrong : ChangeSpec := { name := "signVerifies", fn := fun _ => fun
  | [d1, d2, d3] => { results := [.lit (.bool false)], args := [d1, d2, d3] }
  | _ => none }
def SignVerifiesWrongFalsely : Prop := signVerifiesRow.holds Tryd.pinned (OpenSpec.ofChange signVerifiesWrong)

/-- 'braidlaw03.SignMakes': WHATEVER THE INPUT: true; the input reads as it did. -/
def signMakesSpec : ChangeSpec := { name := "signMakes", fn := fun _ => fun
  | [d1, d2, d3, d4] => { results := [.lit (.bool true)], args := [d1, d2, d3, d4] }
  | _ => none }
def signMakesRow : OpenClaim := { program := "ytdlacedminebdaadoor", sum := "72c673d3012d9baab6e200c510bc9ee311f5f3af06e70b2754281e3389bfa7d7", func := "braid/braidlaw03.SignMakes", spec := "signMakes", unfollowed := true, recurses := true, named := ["braid/digest.constants"], apart := false, laid := [("braid/digest.constants", laid_braid_digest_constants)] }
def SignMakesSaid : Prop := signMakesRow.holds Tryd.pinned (OpenSpec.ofChange signMakesSpec)

/-- ITS FALSE NEIGHBOUR: 'it returns false'. Refute it at one input. -/
def signMakesWrong : ChangeSpec := { name := "signMakes", fn := fun _ => fun
  | [d1, d2, d3, d4] => { results := [.lit (.bool false)], args := [d1, d2, d3, d4] }
  | _ => none }
def SignMakesWrongFalsely : Prop := signMakesRow.holds Tryd.pinned (OpenSpec.ofChange signMakesWrong)

/-- 'braidlaw03.SignNames': WHATEVER THE INPUT: true; the input reads as it did. -/
def signNamesSpec : ChangeSpec := { name := "signNames", fn := fun _ => fun
  | [] => { results := [.lit (.bool true)], args := [] }
  | _ => none }
def signNamesRow : OpenClaim := { program := "ytdlacedminebdaadoor", sum := "72c673d3012d9baab6e200c510bc9ee311f5f3af06e70b2754281e3389bfa7d7", func := "braid/braidlaw03.SignNames", spec := "signNames", unfollowed := true, recurses := true, named := ["braid/digest.constants"], apart := false, laid := [("braid/digest.constants", laid_braid_digest_constants)] }
def SignNamesSaid : Prop := signNamesRow.holds Tryd.pinned (OpenSpec.ofChange signNamesSpec)

/-- ITS FALSE NEIGHBOUR: 'it returns false'. Refute it at one input. -/
def signNamesWrong : ChangeSpec := { name := "signNames", fn := fun _ => fun
  | [] => { results := [.lit (.bool false)], args := [] }
  | _ => none }
def SignNamesWrongFalsely : Prop := signNamesRow.holds Tryd.pinned (OpenSpec.ofChange signNamesWrong)

/-- 'braidlaw03.SignRight': WHATEVER THE INPUT: true; the input reads as it did. -/
def signRightSpec : ChangeSpec := { name := "signRight", fn := fun _ => fun
  | [d1, d2] => { results := [.lit (.bool true)], args := [d1, d2] }
  | _ => none }
def signRightRow : OpenClaim := { program := "ytdlacedminebdaadoor", sum := "72c673d3012d9baab6e200c510bc9ee311f5f3af06e70b2754281e3389bfa7d7", func := "braid/braidlaw03.SignRight", spec := "signRight", unfollowed := true, recurses := true, named := ["braid/digest.constants"], apart := false, laid := [("braid/digest.constants", laid_braid_digest_constants)] }
def SignRightSaid : Prop := signRightRow.holds Tryd.pinned (OpenSpec.ofChange signRightSpec)

/-- ITS FALSE NEIGHBOUR: 'it returns false'. Refute it at one input. -/
def signRightWrong : ChangeSpec := { name := "signRight", fn := fun _ => fun
  | [d1, d2] => { results := [.lit (.bool false)], args := [d1, d2] }
  | _ => none }
def SignRightWrongFalsely : Prop := signRightRow.holds Tryd.pinned (OpenSpec.ofChange signRightWrong)

/-- 'braidlaw03.SignMade': WHATEVER THE INPUT: true; the input reads as it did. -/
def signMadeSpec : ChangeSpec := { name := "signMade", fn := fun _ => fun
  | [d1, d2] => { results := [.lit (.bool true)], args := [d1, d2] }
  | _ => none }
def signMadeRow : OpenClaim := { program := "ytdlacedminebdaadoor", sum := "72c673d3012d9baab6e200c510bc9ee311f5f3af06e70b2754281e3389bfa7d7", func := "braid/braidlaw03.SignMade", spec := "signMade", unfollowed := true, recurses := true, named := ["braid/digest.constants"], apart := false, laid := [("braid/digest.constants", laid_braid_digest_constants)] }
def SignMadeSaid : Prop := signMadeRow.holds Tryd.pinned (OpenSpec.ofChange signMadeSpec)

/-- ITS FALSE NEIGHBOUR: 'it returns false'. Refute it at one input. -/
def signMadeWrong : ChangeSpec := { name := "signMade", fn := fun _ => fun
  | [d1, d2] => { results := [.lit (.bool false)], args := [d1, d2] }
  | _ => none }
def SignMadeWrongFalsely : Prop := signMadeRow.holds Tryd.pinned (OpenSpec.ofChange signMadeWrong)

/-- 'braidlaw03.SignKeys': WHATEVER THE INPUT: true; the input reads as it did. -/
def signKeysSpec : ChangeSpec := { name := "signKeys", fn := fun _ => fun
  | [d1, d2] => { results := [.lit (.bool true)], args := [d1, d2] }
  | _ => none }
def signKeysRow : OpenClaim := { program := "ytdlacedminebdaadoor", sum := "72c673d3012d9baab6e200c510bc9ee311f5f3af06e70b2754281e3389bfa7d7", func := "braid/braidlaw03.SignKeys", spec := "signKeys", unfollowed := true, recurses := true, named := ["braid/digest.constants"], apart := false, laid := [("braid/digest.constants", laid_braid_digest_constants)] }
def SignKeysSaid : Prop := signKeysRow.holds Tryd.pinned (OpenSpec.ofChange signKeysSpec)

/-- ITS FALSE NEIGHBOUR: 'it returns false'. Refute it at one input. -/
def signKeysWrong : ChangeSpec := { name := "signKeys", fn := fun _ => fun
  | [d1, d2] => { results := [.lit (.bool false)], args := [d1, d2] }
  | _ => none }
def SignKeysWrongFalsely : Prop := signKeysRow.holds Tryd.pinned (OpenSpec.ofChange signKeysWrong)

/-- 'braidlaw03.SignTells': WHATEVER THE INPUT: true; the input reads as it did. -/
def signTellsSpec : ChangeSpec := { name := "signTells", fn := fun _ => fun
  | [d1, d2, d3] => { results := [.lit (.bool true)], args := [d1, d2, d3] }
  | _ => none }
def signTellsRow : OpenClaim := { program := "ytdlacedminebdaadoor", sum := "72c673d3012d9baab6e200c510bc9ee311f5f3af06e70b2754281e3389bfa7d7", func := "braid/braidlaw03.SignTells", spec := "signTells", unfollowed := true, recurses := true, named := ["braid/digest.constants"], apart := false, laid := [("braid/digest.constants", laid_braid_digest_constants)] }
def SignTellsSaid : Prop := signTellsRow.holds Tryd.pinned (OpenSpec.ofChange signTellsSpec)

/-- ITS FALSE NEIGHBOUR: 'it returns false'. Refute it at one input. -/
def signTellsWrong : ChangeSpec := { name := "signTells", fn := fun _ => fun
  | [d1, d2, d3] => { results := [.lit (.bool false)], args := [d1, d2, d3] }
  | _ => none }
def SignTellsWrongFalsely : Prop := signTellsRow.holds Tryd.pinned (OpenSpec.ofChange signTellsWrong)

/- THE SECOND FORM. 'bulk': how many values and letters a reading holds, each counted each time it is reached (what is shared counts as often as it is met; a slice's spare places count too). A statement '..UptoSaid' is the law's where the arguments, and the package variables that the reading takes, are together of bulk at most 1048576: NARROWER than '..Said'. Prove '..Said' where nothing that the law and all that it calls make is longer than what came in: it says more and counts as full. Else prove '..UptoSaid'. A law counts once. -/
mutual
def uptoBulk {H : Type} : DataW H → Nat
  | .lit (.string bytes) => bytes.length + 1
  | .lit _ => 1
  | .nil => 1
  | .ptr d => uptoBulk d + 1
  | .slice elems spare => uptoBulkAll elems + uptoBulkAll spare + 1
  | .agg parts => uptoBulkAll parts + 1
  | .iface _ d => uptoBulk d + 1
  | .map entries => uptoBulkEntries entries + 1
  | .held _ => 1
def uptoBulkAll {H : Type} : List (DataW H) → Nat
  | [] => 0
  | d :: r => uptoBulk d + uptoBulkAll r
def uptoBulkEntries {H : Type} : List (Lit × DataW H) → Nat
  | [] => 0
  | x :: r => uptoBulkEntry x + uptoBulkEntries r
def uptoBulkEntry {H : Type} : Lit × DataW H → Nat
  | (.string bytes, d) => bytes.length + uptoBulk d + 1
  | (_, d) => uptoBulk d + 1
 end
def uptoSmall : (H : Type) → List (DataW H) → Bool := fun _ ds => decide (uptoBulkAll ds ≤ 1048576)
def OpenSpec.upto (s : _root_.Go.ChangeSpec) : _root_.Go.OpenSpec := { _root_.Go.OpenSpec.ofChange s with cond := some uptoSmall }

/-- 'braidlaw03.SignVerifies', WHERE WHAT IT READS IS OF BULK AT MOST 1048576: true; the input reads as it did. -/
def signVerifiesUptoRow : OpenClaim := { program := "ytdlacedminebdaadoor", sum := "72c673d3012d9baab6e200c510bc9ee311f5f3af06e70b2754281e3389bfa7d7", func := "braid/braidlaw03.SignVerifies", spec := "signVerifies", unfollowed := true, recurses := true, named := ["braid/digest.constants"], apart := false, laid := [("braid/digest.constants", laid_braid_digest_constants)], narrowed := true }
def SignVerifiesUptoSaid : Prop := signVerifiesUptoRow.holds Tryd.pinned (OpenSpec.upto signVerifiesSpec)

/-- 'braidlaw03.SignMakes', WHERE WHAT IT READS IS OF BULK AT MOST 1048576: true; the input reads as it did. -/
def signMakesUptoRow : OpenClaim := { program := "ytdlacedminebdaadoor", sum := "72c673d3012d9baab6e200c510bc9ee311f5f3af06e70b2754281e3389bfa7d7", func := "braid/braidlaw03.SignMakes", spec := "signMakes", unfollowed := true, recurses := true, named := ["braid/digest.constants"], apart := false, laid := [("braid/digest.constants", laid_braid_digest_constants)], narrowed := true }
def SignMakesUptoSaid : Prop := signMakesUptoRow.holds Tryd.pinned (OpenSpec.upto signMakesSpec)

/-- 'braidlaw03.SignNames', WHERE WHAT IT READS IS OF BULK AT MOST 1048576: true; the input reads as it did. -/
def signNamesUptoRow : OpenClaim := { program := "ytdlacedminebdaadoor", sum := "72c673d3012d9baab6e200c510bc9ee311f5f3af06e70b2754281e3389bfa7d7", func := "braid/braidlaw03.SignNames", spec := "signNames", unfollowed := true, recurses := true, named := ["braid/digest.constants"], apart := false, laid := [("braid/digest.constants", laid_braid_digest_constants)], narrowed := true }
def SignNamesUptoSaid : Prop := signNamesUptoRow.holds Tryd.pinned (OpenSpec.upto signNamesSpec)

/-- 'braidlaw03.SignRight', WHERE WHAT IT READS IS OF BULK AT MOST 1048576: true; the input reads as it did. -/
def signRightUptoRow : OpenClaim := { program := "ytdlacedminebdaadoor", sum := "72c673d3012d9baab6e200c510bc9ee311f5f3af06e70b2754281e3389bfa7d7", func := "braid/braidlaw03.SignRight", spec := "signRight", unfollowed := true, recurses := true, named := ["braid/digest.constants"], apart := false, laid := [("braid/digest.constants", laid_braid_digest_constants)], narrowed := true }
def SignRightUptoSaid : Prop := signRightUptoRow.holds Tryd.pinned (OpenSpec.upto signRightSpec)

/-- 'braidlaw03.SignMade', WHERE WHAT IT READS IS OF BULK AT MOST 1048576: true; the input reads as it did. -/
def signMadeUptoRow : OpenClaim := { program := "ytdlacedminebdaadoor", sum := "72c673d3012d9baab6e200c510bc9ee311f5f3af06e70b2754281e3389bfa7d7", func := "braid/braidlaw03.SignMade", spec := "signMade", unfollowed := true, recurses := true, named := ["braid/digest.constants"], apart := false, laid := [("braid/digest.constants", laid_braid_digest_constants)], narrowed := true }
def SignMadeUptoSaid : Prop := signMadeUptoRow.holds Tryd.pinned (OpenSpec.upto signMadeSpec)

/-- 'braidlaw03.SignKeys', WHERE WHAT IT READS IS OF BULK AT MOST 1048576: true; the input reads as it did. -/
def signKeysUptoRow : OpenClaim := { program := "ytdlacedminebdaadoor", sum := "72c673d3012d9baab6e200c510bc9ee311f5f3af06e70b2754281e3389bfa7d7", func := "braid/braidlaw03.SignKeys", spec := "signKeys", unfollowed := true, recurses := true, named := ["braid/digest.constants"], apart := false, laid := [("braid/digest.constants", laid_braid_digest_constants)], narrowed := true }
def SignKeysUptoSaid : Prop := signKeysUptoRow.holds Tryd.pinned (OpenSpec.upto signKeysSpec)

/-- 'braidlaw03.SignTells', WHERE WHAT IT READS IS OF BULK AT MOST 1048576: true; the input reads as it did. -/
def signTellsUptoRow : OpenClaim := { program := "ytdlacedminebdaadoor", sum := "72c673d3012d9baab6e200c510bc9ee311f5f3af06e70b2754281e3389bfa7d7", func := "braid/braidlaw03.SignTells", spec := "signTells", unfollowed := true, recurses := true, named := ["braid/digest.constants"], apart := false, laid := [("braid/digest.constants", laid_braid_digest_constants)], narrowed := true }
def SignTellsUptoSaid : Prop := signTellsUptoRow.holds Tryd.pinned (OpenSpec.upto signTellsSpec)

end Rows
end Go.Proofs.YtdlacedminebdaaDoor
