/-
  NARROWER THAN 'FOR EVERY INPUT', by the rows' own cells (each row's printed sentence says how): DigestMills: laid · DigestSums: laid · DigestOrder: laid · DigestPieces: laid · DigestOn: laid · DigestNames: laid.
  DERIVED. THE GIVEN ROWS OF THIS SEAT. 6 by the template 'for every input the law returns true; each argument reads behind the call as it read before'; 0 by the template 'total and deterministic' (their statements: YtlilodfddojlhaaDoorTotals.lean).
  GIVEN WITH THE SEED: the statements are not yours to turn. If you find one false, say at which input.
  Laid BY PROGRAM, IN A SANDBOX (cutbox-rows.mjs): the forced cells as the released guide's own fill.sh prints them over the translation ac380566bd52b1d9… (all of the seat's roots in one cut). By AI agents, Wed Nov 11 2026. No macro, syntax, notation, axiom, sorry.
-/
import Derived.Test.YtlilodfddojlhaaDoorChecked
import GoSem.Claim
import GoSem.ClaimJoined
import GoSem.ClaimMapViews
import Derived.JoinedTies
import Derived.KernelRfl
namespace Go.Proofs.YtlilodfddojlhaaDoor
/- THE CELL 'sum', in the pinned program and in every row, IS THE sha256 OF THE DUMP (.gsa) THAT YtlilodfddojlhaaDoorProg.lean LOADS. Nothing in Lean hashes anything: it is a label: what it is worth is what the hold of that sum in a sandbox is worth. -/
noncomputable def Tryd.pinned : Pinned := { name := "ytlilodfddojlhaadoor", sum := "ac380566bd52b1d911a0f95a31c22d3b5a8d6211fe69970bc7bfc431fb1e4362", checked := Tryd.checked }
namespace Rows
def none {H : Type} : Left H := { results := [], args := [] }

/- WHAT THE LISTED PACKAGE-LEVEL VARIABLES READ AS WHEN THE CALL BEGINS. Each datum BY PROGRAM (the guide's laid-datum.mjs) off the statement by which the dump's own 'gosem.cut.vars' lays the variable. In a bare row this is a premise. The card (YtlilodfddojlhaaDoorCards.lean) ties it to the program's text. -/
def laid_braid_digest_constants {H : Type} : DataW H := .agg [.lit (.int .u32 1116352408), .lit (.int .u32 1899447441), .lit (.int .u32 3049323471), .lit (.int .u32 3921009573), .lit (.int .u32 961987163), .lit (.int .u32 1508970993), .lit (.int .u32 2453635748), .lit (.int .u32 2870763221), .lit (.int .u32 3624381080), .lit (.int .u32 310598401), .lit (.int .u32 607225278), .lit (.int .u32 1426881987), .lit (.int .u32 1925078388), .lit (.int .u32 2162078206), .lit (.int .u32 2614888103), .lit (.int .u32 3248222580), .lit (.int .u32 3835390401), .lit (.int .u32 4022224774), .lit (.int .u32 264347078), .lit (.int .u32 604807628), .lit (.int .u32 770255983), .lit (.int .u32 1249150122), .lit (.int .u32 1555081692), .lit (.int .u32 1996064986), .lit (.int .u32 2554220882), .lit (.int .u32 2821834349), .lit (.int .u32 2952996808), .lit (.int .u32 3210313671), .lit (.int .u32 3336571891), .lit (.int .u32 3584528711), .lit (.int .u32 113926993), .lit (.int .u32 338241895), .lit (.int .u32 666307205), .lit (.int .u32 773529912), .lit (.int .u32 1294757372), .lit (.int .u32 1396182291), .lit (.int .u32 1695183700), .lit (.int .u32 1986661051), .lit (.int .u32 2177026350), .lit (.int .u32 2456956037), .lit (.int .u32 2730485921), .lit (.int .u32 2820302411), .lit (.int .u32 3259730800), .lit (.int .u32 3345764771), .lit (.int .u32 3516065817), .lit (.int .u32 3600352804), .lit (.int .u32 4094571909), .lit (.int .u32 275423344), .lit (.int .u32 430227734), .lit (.int .u32 506948616), .lit (.int .u32 659060556), .lit (.int .u32 883997877), .lit (.int .u32 958139571), .lit (.int .u32 1322822218), .lit (.int .u32 1537002063), .lit (.int .u32 1747873779), .lit (.int .u32 1955562222), .lit (.int .u32 2024104815), .lit (.int .u32 2227730452), .lit (.int .u32 2361852424), .lit (.int .u32 2428436474), .lit (.int .u32 2756734187), .lit (.int .u32 3204031479), .lit (.int .u32 3329325298)]

/-- 'braidlaw01.DigestMills': WHATEVER THE INPUT: true; the input reads as it did. -/
def digestMillsSpec : ChangeSpec := { name := "digestMills", fn := fun _ => fun
  | [d1, d2] => { results := [.lit (.bool true)], args := [d1, d2] }
  | _ => none }
def digestMillsRow : OpenClaim := { program := "ytlilodfddojlhaadoor", sum := "ac380566bd52b1d911a0f95a31c22d3b5a8d6211fe69970bc7bfc431fb1e4362", func := "braid/braidlaw01.DigestMills", spec := "digestMills", named := ["braid/digest.constants"], apart := false, laid := [("braid/digest.constants", laid_braid_digest_constants)] }
def DigestMillsSaid : Prop := digestMillsRow.holds Tryd.pinned (OpenSpec.ofChange digestMillsSpec)

/-- ITS FALSE NEIGHBOUR: 'it returns false'. Refute it at one input. -/
def digestMillsWrong : ChangeSpec := { name := "digestMills", fn := fun _ => fun
  | [d1, d2] => { results := [.lit (.bool false)], args := [d1, d2] }
  | _ => none }
def DigestMillsWrongFalsely : Prop := digestMillsRow.holds Tryd.pinned (OpenSpec.ofChange digestMillsWrong)

/-- 'braidlaw01.DigestSums': WHATEVER THE INPUT: true; the input reads as it did. -/
def digestSumsSpec : ChangeSpec := { name := "digestSums", fn := fun _ => fun
  | [d1, d2, d3] => { results := [.lit (.bool true)], args := [d1, d2, d3] }
  | _ => none }
def digestSumsRow : OpenClaim := { program := "ytlilodfddojlhaadoor", sum := "ac380566bd52b1d911a0f95a31c22d3b5a8d6211fe69970bc7bfc431fb1e4362", func := "braid/braidlaw01.DigestSums", spec := "digestSums", inPlace := ["internal/bytealg.Compare"], unfollowed := true, recurses := true, named := ["braid/digest.constants"], apart := false, laid := [("braid/digest.constants", laid_braid_digest_constants)] }
def DigestSumsSaid : Prop := digestSumsRow.holds Tryd.pinned (OpenSpec.ofChange digestSumsSpec)

/-- ITS FALSE NEIGHBOUR: 'it returns false'. Refute it at one input. -/
def digestSumsWrong : ChangeSpec := { name := "digestSums", fn := fun _ => fun
  | [d1, d2, d3] => { results := [.lit (.bool false)], args := [d1, d2, d3] }
  | _ => none }
def DigestSumsWrongFalsely : Prop := digestSumsRow.holds Tryd.pinned (OpenSpec.ofChange digestSumsWrong)

/-- 'braidlaw01.DigestOrder': WHATEVER THE INPUT: true; the input reads as it did. -/
def digestOrderSpec : ChangeSpec := { name := "digestOrder", fn := fun _ => fun
  | [d1, d2, d3, d4] => { results := [.lit (.bool true)], args := [d1, d2, d3, d4] }
  | _ => none }
def digestOrderRow : OpenClaim := { program := "ytlilodfddojlhaadoor", sum := "ac380566bd52b1d911a0f95a31c22d3b5a8d6211fe69970bc7bfc431fb1e4362", func := "braid/braidlaw01.DigestOrder", spec := "digestOrder", inPlace := ["internal/bytealg.Compare"], unfollowed := true, recurses := true, named := ["braid/digest.constants"], apart := false, laid := [("braid/digest.constants", laid_braid_digest_constants)] }
def DigestOrderSaid : Prop := digestOrderRow.holds Tryd.pinned (OpenSpec.ofChange digestOrderSpec)

/-- ITS FALSE NEIGHBOUR: 'it returns false'. Refute it at one input. -/
def digestOrderWrong : ChangeSpec := { name := "digestOrder", fn := fun _ => fun
  | [d1, d2, d3, d4] => { results := [.lit (.bool false)], args := [d1, d2, d3, d4] }
  | _ => none }
def DigestOrderWrongFalsely : Prop := digestOrderRow.holds Tryd.pinned (OpenSpec.ofChange digestOrderWrong)

/-- 'braidlaw01.DigestPieces': WHATEVER THE INPUT: true; the input reads as it did. -/
def digestPiecesSpec : ChangeSpec := { name := "digestPieces", fn := fun _ => fun
  | [d] => { results := [.lit (.bool true)], args := [d] }
  | _ => none }
def digestPiecesRow : OpenClaim := { program := "ytlilodfddojlhaadoor", sum := "ac380566bd52b1d911a0f95a31c22d3b5a8d6211fe69970bc7bfc431fb1e4362", func := "braid/braidlaw01.DigestPieces", spec := "digestPieces", unfollowed := true, recurses := true, named := ["braid/digest.constants"], apart := false, laid := [("braid/digest.constants", laid_braid_digest_constants)] }
def DigestPiecesSaid : Prop := digestPiecesRow.holds Tryd.pinned (OpenSpec.ofChange digestPiecesSpec)

/-- ITS FALSE NEIGHBOUR: 'it returns false'. Refute it at one input. -/
def digestPiecesWrong : ChangeSpec := { name := "digestPieces", fn := fun _ => fun
  | [d] => { results := [.lit (.bool false)], args := [d] }
  | _ => none }
def DigestPiecesWrongFalsely : Prop := digestPiecesRow.holds Tryd.pinned (OpenSpec.ofChange digestPiecesWrong)

/-- 'braidlaw01.DigestOn': WHATEVER THE INPUT: true; the input reads as it did. -/
def digestOnSpec : ChangeSpec := { name := "digestOn", fn := fun _ => fun
  | [d1, d2, d3, d4] => { results := [.lit (.bool true)], args := [d1, d2, d3, d4] }
  | _ => none }
def digestOnRow : OpenClaim := { program := "ytlilodfddojlhaadoor", sum := "ac380566bd52b1d911a0f95a31c22d3b5a8d6211fe69970bc7bfc431fb1e4362", func := "braid/braidlaw01.DigestOn", spec := "digestOn", unfollowed := true, recurses := true, named := ["braid/digest.constants"], apart := false, laid := [("braid/digest.constants", laid_braid_digest_constants)] }
def DigestOnSaid : Prop := digestOnRow.holds Tryd.pinned (OpenSpec.ofChange digestOnSpec)

/-- ITS FALSE NEIGHBOUR: 'it returns false'. Refute it at one input. -/
def digestOnWrong : ChangeSpec := { name := "digestOn", fn := fun _ => fun
  | [d1, d2, d3, d4] => { results := [.lit (.bool false)], args := [d1, d2, d3, d4] }
  | _ => none }
def DigestOnWrongFalsely : Prop := digestOnRow.holds Tryd.pinned (OpenSpec.ofChange digestOnWrong)

/-- 'braidlaw01.DigestNames': WHATEVER THE INPUT: true; the input reads as it did. -/
def digestNamesSpec : ChangeSpec := { name := "digestNames", fn := fun _ => fun
  | [] => { results := [.lit (.bool true)], args := [] }
  | _ => none }
def digestNamesRow : OpenClaim := { program := "ytlilodfddojlhaadoor", sum := "ac380566bd52b1d911a0f95a31c22d3b5a8d6211fe69970bc7bfc431fb1e4362", func := "braid/braidlaw01.DigestNames", spec := "digestNames", inPlace := ["internal/bytealg.Compare"], unfollowed := true, recurses := true, named := ["braid/digest.constants"], apart := false, laid := [("braid/digest.constants", laid_braid_digest_constants)] }
def DigestNamesSaid : Prop := digestNamesRow.holds Tryd.pinned (OpenSpec.ofChange digestNamesSpec)

/-- ITS FALSE NEIGHBOUR: 'it returns false'. Refute it at one input. -/
def digestNamesWrong : ChangeSpec := { name := "digestNames", fn := fun _ => fun
  | [] => { results := [.lit (.bool false)], args := [] }
  | _ => none }
def DigestNamesWrongFalsely : Prop := digestNamesRow.holds Tryd.pinned (OpenSpec.ofChange digestNamesWrong)

/- THE SECOND FORM. 'bulk': how many values and letters a reading holds, each counted each time it is reached (what is shared counts as often as it is met; a slice's spare places count too). A statement '..UptoSaid' is the law's where the arguments, and the package variables that the reading takes, are together of bulk at most 1048576: NARROWER than '..Said'. Prove '..Said' where nothing that the law and all that it calls make is longer than what came in: it says more and counts as full. Else prove '..UptoSaid'. A law counts once. -/
mutual
def uptoBulk {H : Type} : DataW H → Nat
  | .lit (.string bytes) => bytes.length + 1
  | .lit _ => 1
  | .nil => 1
  | .ptr d => uptoBulk d + 1
  | .slice elems spare => uptoBulkAll elems + uptoBulkAll spare + 1
  | .agg parts => uptoBulkAll parts + 1
  | .iface _ d => uptoBulk d + 1
  | .map entries => uptoBulkEntries entries + 1
  | .held _ => 1
def uptoBulkAll {H : Type} : List (DataW H) → Nat
  | [] => 0
  | d :: r => uptoBulk d + uptoBulkAll r
def uptoBulkEntries {H : Type} : List (Lit × DataW H) → Nat
  | [] => 0
  | x :: r => uptoBulkEntry x + uptoBulkEntries r
def uptoBulkEntry {H : Type} : Lit × DataW H → Nat
  | (.string bytes, d) => bytes.length + uptoBulk d + 1
  | (_, d) => uptoBulk d + 1
 end
def uptoSmall : (H : Type) → List (DataW H) → Bool := fun _ ds => decide (uptoBulkAll ds ≤ 1048576)
def OpenSpec.upto (s : _root_.Go.ChangeSpec) : _root_.Go.OpenSpec := { _root_.Go.OpenSpec.ofChange s with cond := some uptoSmall }

/-- 'braidlaw01.DigestMills', WHERE WHAT IT READS IS OF BULK AT MOST 1048576: true; the input reads as it did. -/
def digestMillsUptoRow : OpenClaim := { program := "ytlilodfddojlhaadoor", sum := "ac380566bd52b1d911a0f95a31c22d3b5a8d6211fe69970bc7bfc431fb1e4362", func := "braid/braidlaw01.DigestMills", spec := "digestMills", named := ["braid/digest.constants"], apart := false, laid := [("braid/digest.constants", laid_braid_digest_constants)], narrowed := true }
def DigestMillsUptoSaid : Prop := digestMillsUptoRow.holds Tryd.pinned (OpenSpec.upto digestMillsSpec)

/-- 'braidlaw01.DigestSums', WHERE WHAT IT READS IS OF BULK AT MOST 1048576: true; the input reads as it did. -/
def digestSumsUptoRow : OpenClaim := { program := "ytlilodfddojlhaadoor", sum := "ac380566bd52b1d911a0f95a31c22d3b5a8d6211fe69970bc7bfc431fb1e4362", func := "braid/braidlaw01.DigestSums", spec := "digestSums", inPlace := ["internal/bytealg.Compare"], unfollowed := true, recurses := true, named := ["braid/digest.constants"], apart := false, laid := [("braid/digest.constants", laid_braid_digest_constants)], narrowed := true }
def DigestSumsUptoSaid : Prop := digestSumsUptoRow.holds Tryd.pinned (OpenSpec.upto digestSumsSpec)

/-- 'braidlaw01.DigestOrder', WHERE WHAT IT READS IS OF BULK AT MOST 1048576: true; the input reads as it did. -/
def digestOrderUptoRow : OpenClaim := { program := "ytlilodfddojlhaadoor", sum := "ac380566bd52b1d911a0f95a31c22d3b5a8d6211fe69970bc7bfc431fb1e4362", func := "braid/braidlaw01.DigestOrder", spec := "digestOrder", inPlace := ["internal/bytealg.Compare"], unfollowed := true, recurses := true, named := ["braid/digest.constants"], apart := false, laid := [("braid/digest.constants", laid_braid_digest_constants)], narrowed := true }
def DigestOrderUptoSaid : Prop := digestOrderUptoRow.holds Tryd.pinned (OpenSpec.upto digestOrderSpec)

/-- 'braidlaw01.DigestPieces', WHERE WHAT IT READS IS OF BULK AT MOST 1048576: true; the input reads as it did. -/
def digestPiecesUptoRow : OpenClaim := { program := "ytlilodfddojlhaadoor", sum := "ac380566bd52b1d911a0f95a31c22d3b5a8d6211fe69970bc7bfc431fb1e4362", func := "braid/braidlaw01.DigestPieces", spec := "digestPieces", unfollowed := true, recurses := true, named := ["braid/digest.constants"], apart := false, laid := [("braid/digest.constants", laid_braid_digest_constants)], narrowed := true }
def DigestPiecesUptoSaid : Prop := digestPiecesUptoRow.holds Tryd.pinned (OpenSpec.upto digestPiecesSpec)

/-- 'braidlaw01.DigestOn', WHERE WHAT IT READS IS OF BULK AT MOST 1048576: true; the input reads as it did. -/
def digestOnUptoRow : OpenClaim := { program := "ytlilodfddojlhaadoor", sum := "ac380566bd52b1d911a0f95a31c22d3b5a8d6211fe69970bc7bfc431fb1e4362", func := "braid/braidlaw01.DigestOn", spec := "digestOn", unfollowed := true, recurses := true, named := ["braid/digest.constants"], apart := false, laid := [("braid/digest.constants", laid_braid_digest_constants)], narrowed := true }
def DigestOnUptoSaid : Prop := digestOnUptoRow.holds Tryd.pinned (OpenSpec.upto digestOnSpec)

/-- 'braidlaw01.DigestNames', WHERE WHAT IT READS IS OF BULK AT MOST 1048576: true; the input reads as it did. -/
def digestNamesUptoRow : OpenClaim := { program := "ytlilodfddojlhaadoor", sum := "ac380566bd52b1d911a0f95a31c22d3b5a8d6211fe69970bc7bfc431fb1e4362", func := "braid/braidlaw01.DigestNames", spec := "digestNames", inPlace := ["internal/bytealg.Compare"], unfollowed := true, recurses := true, named := ["braid/digest.constants"], apart := false, laid := [("braid/digest.constants", laid_braid_digest_constants)], narrowed := true }
def DigestNamesUptoSaid : Prop := digestNamesUptoRow.holds Tryd.pinned (OpenSpec.upto digestNamesSpec)

end Rows
end Go.Proofs.YtlilodfddojlhaaDoor
