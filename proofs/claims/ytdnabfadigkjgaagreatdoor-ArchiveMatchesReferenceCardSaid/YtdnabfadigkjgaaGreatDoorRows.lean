/-
  NARROWER THAN 'FOR EVERY INPUT', by the rows' own cells (each row's printed sentence says how): ArchiveMatchesReference: laid · ArchiveMerges: laid · ArchiveOrder: laid · ArchiveChains: laid · ArchiveForks: laid · ArchiveRetracts: laid · ArchiveSigns: laid · ArchiveCodes: laid.
  DERIVED. THE GIVEN ROWS OF THIS SEAT. 8 by the template 'for every input the law returns true; each argument reads behind the call as it read before'; 0 by the template 'total and deterministic' (their statements: YtdnabfadigkjgaaGreatDoorTotals.lean).
  GIVEN WITH THE SEED: the statements are not yours to turn. If you find one false, say at which input.
  Laid BY PROGRAM, IN A SANDBOX (cutbox-rows.mjs): the forced cells as the released guide's own fill.sh prints them over the translation 6f455a8fb91b4b61… (all of the seat's roots in one cut). By AI agents, Wed Nov 11 2026. No macro, syntax, notation, axiom, sorry.
-/
import Derived.Test.YtdnabfadigkjgaaGreatDoorChecked
import GoSem.Claim
import GoSem.ClaimJoined
import GoSem.ClaimMapViews
import Derived.JoinedTies
import Derived.KernelRfl
namespace Go.Proofs.YtdnabfadigkjgaaGreatDoor
/- THE CELL 'sum', in the pinned program and in every row, IS THE sha256 OF THE DUMP (.gsa) THAT YtdnabfadigkjgaaGreatDoorProg.lean LOADS. Nothing in Lean hashes anything: it is a label: what it is worth is what the hold of that sum in a sandbox is worth. -/
noncomputable def Tryz.pinned : Pinned := { name := "ytdnabfadigkjgaagreatdoor", sum := "6f455a8fb91b4b61c2540da04d8eac258bed362e4802967240347e8e2a4fd6ef", checked := Tryz.checked }
namespace Rows
def none {H : Type} : Left H := { results := [], args := [] }

/- WHAT THE LISTED PACKAGE-LEVEL VARIABLES READ AS WHEN THE CALL BEGINS. Each datum BY PROGRAM (the guide's laid-datum.mjs) off the statement by which the dump's own 'gosem.cut.vars' lays the variable. In a bare row this is a premise. The card (YtdnabfadigkjgaaGreatDoorCards.lean) ties it to the program's text. -/
def laid_putlog_digest_round {H : Type} : DataW H := .agg [.lit (.int .u32 1116352408), .lit (.int .u32 1899447441), .lit (.int .u32 3049323471), .lit (.int .u32 3921009573), .lit (.int .u32 961987163), .lit (.int .u32 1508970993), .lit (.int .u32 2453635748), .lit (.int .u32 2870763221), .lit (.int .u32 3624381080), .lit (.int .u32 310598401), .lit (.int .u32 607225278), .lit (.int .u32 1426881987), .lit (.int .u32 1925078388), .lit (.int .u32 2162078206), .lit (.int .u32 2614888103), .lit (.int .u32 3248222580), .lit (.int .u32 3835390401), .lit (.int .u32 4022224774), .lit (.int .u32 264347078), .lit (.int .u32 604807628), .lit (.int .u32 770255983), .lit (.int .u32 1249150122), .lit (.int .u32 1555081692), .lit (.int .u32 1996064986), .lit (.int .u32 2554220882), .lit (.int .u32 2821834349), .lit (.int .u32 2952996808), .lit (.int .u32 3210313671), .lit (.int .u32 3336571891), .lit (.int .u32 3584528711), .lit (.int .u32 113926993), .lit (.int .u32 338241895), .lit (.int .u32 666307205), .lit (.int .u32 773529912), .lit (.int .u32 1294757372), .lit (.int .u32 1396182291), .lit (.int .u32 1695183700), .lit (.int .u32 1986661051), .lit (.int .u32 2177026350), .lit (.int .u32 2456956037), .lit (.int .u32 2730485921), .lit (.int .u32 2820302411), .lit (.int .u32 3259730800), .lit (.int .u32 3345764771), .lit (.int .u32 3516065817), .lit (.int .u32 3600352804), .lit (.int .u32 4094571909), .lit (.int .u32 275423344), .lit (.int .u32 430227734), .lit (.int .u32 506948616), .lit (.int .u32 659060556), .lit (.int .u32 883997877), .lit (.int .u32 958139571), .lit (.int .u32 1322822218), .lit (.int .u32 1537002063), .lit (.int .u32 1747873779), .lit (.int .u32 1955562222), .lit (.int .u32 2024104815), .lit (.int .u32 2227730452), .lit (.int .u32 2361852424), .lit (.int .u32 2428436474), .lit (.int .u32 2756734187), .lit (.int .u32 3204031479), .lit (.int .u32 3329325298)]

/-- 'putloglaw39.ArchiveMatchesReference': WHATEVER THE INPUT: true; the input reads as it did. -/
def archiveMatchesReferenceSpec : ChangeSpec := { name := "archiveMatchesReference", fn := fun _ => fun
  | [d1, d2, d3, d4, d5, d6, d7, d8, d9, d10, d11, d12] => { results := [.lit (.bool true)], args := [d1, d2, d3, d4, d5, d6, d7, d8, d9, d10, d11, d12] }
  | _ => none }
def archiveMatchesReferenceRow : OpenClaim := { program := "ytdnabfadigkjgaagreatdoor", sum := "6f455a8fb91b4b61c2540da04d8eac258bed362e4802967240347e8e2a4fd6ef", func := "putlog/putloglaw39.ArchiveMatchesReference", spec := "archiveMatchesReference", inPlace := ["internal/abi.NoEscape", "internal/bytealg.MakeNoZero"], unfollowed := true, recurses := true, named := ["putlog/digest.round"], apart := false, laid := [("putlog/digest.round", laid_putlog_digest_round)] }
def ArchiveMatchesReferenceSaid : Prop := archiveMatchesReferenceRow.holds Tryz.pinned (OpenSpec.ofChange archiveMatchesReferenceSpec)

/-- ITS FALSE NEIGHBOUR: 'it returns false'. Refute it at one input. -/
def archiveMatchesReferenceWrong : ChangeSpec := { name := "archiveMatchesReference", fn := fun _ => fun
  | [d1, d2, d3, d4, d5, d6, d7, d8, d9, d10, d11, d12] => { results := [.lit (.bool false)], args := [d1, d2, d3, d4, d5, d6, d7, d8, d9, d10, d11, d12] }
  | _ => none }
def ArchiveMatchesReferenceWrongFalsely : Prop := archiveMatchesReferenceRow.holds Tryz.pinned (OpenSpec.ofChange archiveMatchesReferenceWrong)

/-- 'putloglaw39.ArchiveMerges': WHATEVER THE INPUT: true; the input reads as it did. -/
def archiveMergesSpec : ChangeSpec := { name := "archiveMerges", fn := fun _ => fun
  | [d1, d2, d3] => { results := [.lit (.bool true)], args := [d1, d2, d3] }
  | _ => none }
def archiveMergesRow : OpenClaim := { program := "ytdnabfadigkjgaagreatdoor", sum := "6f455a8fb91b4b61c2540da04d8eac258bed362e4802967240347e8e2a4fd6ef", func := "putlog/putloglaw39.ArchiveMerges", spec := "archiveMerges", inPlace := ["internal/abi.NoEscape", "internal/bytealg.MakeNoZero"], unfollowed := true, recurses := true, named := ["putlog/digest.round"], apart := false, laid := [("putlog/digest.round", laid_putlog_digest_round)] }
def ArchiveMergesSaid : Prop := archiveMergesRow.holds Tryz.pinned (OpenSpec.ofChange archiveMergesSpec)

/-- ITS FALSE NEIGHBOUR: 'it returns false'. Refute it at one input. -/
def archiveMergesWrong : ChangeSpec := { name := "archiveMerges", fn := fun _ => fun
  | [d1, d2, d3] => { results := [.lit (.bool false)], args := [d1, d2, d3] }
  | _ => none }
def ArchiveMergesWrongFalsely : Prop := archiveMergesRow.holds Tryz.pinned (OpenSpec.ofChange archiveMergesWrong)

/-- 'putloglaw39.ArchiveOrder': WHATEVER THE INPUT: true; the input reads as it did. -/
def archiveOrderSpec : ChangeSpec := { name := "archiveOrder", fn := fun _ => fun
  | [d1, d2, d3, d4] => { results := [.lit (.bool true)], args := [d1, d2, d3, d4] }
  | _ => none }
def archiveOrderRow : OpenClaim := { program := "ytdnabfadigkjgaagreatdoor", sum := "6f455a8fb91b4b61c2540da04d8eac258bed362e4802967240347e8e2a4fd6ef", func := "putlog/putloglaw39.ArchiveOrder", spec := "archiveOrder", inPlace := ["internal/abi.NoEscape", "internal/bytealg.MakeNoZero"], unfollowed := true, recurses := true, named := ["putlog/digest.round"], apart := false, laid := [("putlog/digest.round", laid_putlog_digest_round)] }
def ArchiveOrderSaid : Prop := archiveOrderRow.holds Tryz.pinned (OpenSpec.ofChange archiveOrderSpec)

/-- ITS FALSE NEIGHBOUR: 'it returns false'. Refute it at one input. -/
def archiveOrderWrong : ChangeSpec := { name := "archiveOrder", fn := fun _ => fun
  | [d1, d2, d3, d4] => { results := [.lit (.bool false)], args := [d1, d2, d3, d4] }
  | _ => none }
def ArchiveOrderWrongFalsely : Prop := archiveOrderRow.holds Tryz.pinned (OpenSpec.ofChange archiveOrderWrong)

/-- 'putloglaw39.ArchiveChains': WHATEVER THE INPUT: true; the input reads as it did. -/
def archiveChainsSpec : ChangeSpec := { name := "archiveChains", fn := fun _ => fun
  | [d1, d2] => { results := [.lit (.bool true)], args := [d1, d2] }
  | _ => none }
def archiveChainsRow : OpenClaim := { program := "ytdnabfadigkjgaagreatdoor", sum := "6f455a8fb91b4b61c2540da04d8eac258bed362e4802967240347e8e2a4fd6ef", func := "putlog/putloglaw39.ArchiveChains", spec := "archiveChains", inPlace := ["internal/abi.NoEscape", "internal/bytealg.MakeNoZero"], unfollowed := true, recurses := true, named := ["putlog/digest.round"], apart := false, laid := [("putlog/digest.round", laid_putlog_digest_round)] }
def ArchiveChainsSaid : Prop := archiveChainsRow.holds Tryz.pinned (OpenSpec.ofChange archiveChainsSpec)

/-- ITS FALSE NEIGHBOUR: 'it returns false'. Refute it at one input. -/
def archiveChainsWrong : ChangeSpec := { name := "archiveChains", fn := fun _ => fun
  | [d1, d2] => { results := [.lit (.bool false)], args := [d1, d2] }
  | _ => none }
def ArchiveChainsWrongFalsely : Prop := archiveChainsRow.holds Tryz.pinned (OpenSpec.ofChange archiveChainsWrong)

/-- 'putloglaw39.ArchiveForks': WHATEVER THE INPUT: true; the input reads as it did. -/
def archiveForksSpec : ChangeSpec := { name := "archiveForks", fn := fun _ => fun
  | [d1, d2, d3] => { results := [.lit (.bool true)], args := [d1, d2, d3] }
  | _ => none }
def archiveForksRow : OpenClaim := { program := "ytdnabfadigkjgaagreatdoor", sum := "6f455a8fb91b4b61c2540da04d8eac258bed362e4802967240347e8e2a4fd6ef", func := "putlog/putloglaw39.ArchiveForks", spec := "archiveForks", inPlace := ["internal/abi.NoEscape", "internal/bytealg.MakeNoZero"], unfollowed := true, recurses := true, named := ["putlog/digest.round"], apart := false, laid := [("putlog/digest.round", laid_putlog_digest_round)] }
def ArchiveForksSaid : Prop := archiveForksRow.holds Tryz.pinned (OpenSpec.ofChange archiveForksSpec)

/-- ITS FALSE NEIGHBOUR: 'it returns false'. Refute it at one input. -/
def archiveForksWrong : ChangeSpec := { name := "archiveForks", fn := fun _ => fun
  | [d1, d2, d3] => { results := [.lit (.bool false)], args := [d1, d2, d3] }
  | _ => none }
def ArchiveForksWrongFalsely : Prop := archiveForksRow.holds Tryz.pinned (OpenSpec.ofChange archiveForksWrong)

/-- 'putloglaw39.ArchiveRetracts': WHATEVER THE INPUT: true; the input reads as it did. -/
def archiveRetractsSpec : ChangeSpec := { name := "archiveRetracts", fn := fun _ => fun
  | [d1, d2, d3] => { results := [.lit (.bool true)], args := [d1, d2, d3] }
  | _ => none }
def archiveRetractsRow : OpenClaim := { program := "ytdnabfadigkjgaagreatdoor", sum := "6f455a8fb91b4b61c2540da04d8eac258bed362e4802967240347e8e2a4fd6ef", func := "putlog/putloglaw39.ArchiveRetracts", spec := "archiveRetracts", inPlace := ["internal/abi.NoEscape", "internal/bytealg.MakeNoZero"], unfollowed := true, recurses := true, named := ["putlog/digest.round"], apart := false, laid := [("putlog/digest.round", laid_putlog_digest_round)] }
def ArchiveRetractsSaid : Prop := archiveRetractsRow.holds Tryz.pinned (OpenSpec.ofChange archiveRetractsSpec)

/-- ITS FALSE NEIGHBOUR: 'it returns false'. Refute it at one input. -/
def archiveRetractsWrong : ChangeSpec := { name := "archiveRetracts", fn := fun _ => fun
  | [d1, d2, d3] => { results := [.lit (.bool false)], args := [d1, d2, d3] }
  | _ => none }
def ArchiveRetractsWrongFalsely : Prop := archiveRetractsRow.holds Tryz.pinned (OpenSpec.ofChange archiveRetractsWrong)

/-- 'putloglaw39.ArchiveSigns': WHATEVER THE INPUT: true; the input reads as it did. -/
def archiveSignsSpec : ChangeSpec := { name := "archiveSigns", fn := fun _ => fun
  | [d1, d2, d3, d4, d5] => { results := [.lit (.bool true)], args := [d1, d2, d3, d4, d5] }
  | _ => none }
def archiveSignsRow : OpenClaim := { program := "ytdnabfadigkjgaagreatdoor", sum := "6f455a8fb91b4b61c2540da04d8eac258bed362e4802967240347e8e2a4fd6ef", func := "putlog/putloglaw39.ArchiveSigns", spec := "archiveSigns", inPlace := ["internal/abi.NoEscape", "internal/bytealg.MakeNoZero"], unfollowed := true, recurses := true, named := ["putlog/digest.round"], apart := false, laid := [("putlog/digest.round", laid_putlog_digest_round)] }
def ArchiveSignsSaid : Prop := archiveSignsRow.holds Tryz.pinned (OpenSpec.ofChange archiveSignsSpec)

/-- ITS FALSE NEIGHBOUR: 'it returns false'. Refute it at one input. -/
def archiveSignsWrong : ChangeSpec := { name := "archiveSigns", fn := fun _ => fun
  | [d1, d2, d3, d4, d5] => { results := [.lit (.bool false)], args := [d1, d2, d3, d4, d5] }
  | _ => none }
def ArchiveSignsWrongFalsely : Prop := archiveSignsRow.holds Tryz.pinned (OpenSpec.ofChange archiveSignsWrong)

/-- 'putloglaw39.ArchiveCodes': WHATEVER THE INPUT: true; the input reads as it did. -/
def archiveCodesSpec : ChangeSpec := { name := "archiveCodes", fn := fun _ => fun
  | [d1, d2, d3, d4, d5] => { results := [.lit (.bool true)], args := [d1, d2, d3, d4, d5] }
  | _ => none }
def archiveCodesRow : OpenClaim := { program := "ytdnabfadigkjgaagreatdoor", sum := "6f455a8fb91b4b61c2540da04d8eac258bed362e4802967240347e8e2a4fd6ef", func := "putlog/putloglaw39.ArchiveCodes", spec := "archiveCodes", inPlace := ["internal/abi.NoEscape", "internal/bytealg.MakeNoZero"], unfollowed := true, recurses := true, named := ["putlog/digest.round"], apart := false, laid := [("putlog/digest.round", laid_putlog_digest_round)] }
def ArchiveCodesSaid : Prop := archiveCodesRow.holds Tryz.pinned (OpenSpec.ofChange archiveCodesSpec)

/-- ITS FALSE NEIGHBOUR: 'it returns false'. Refute it at one input. -/
def archiveCodesWrong : ChangeSpec := { name := "archiveCodes", fn := fun _ => fun
  | [d1, d2, d3, d4, d5] => { results := [.lit (.bool false)], args := [d1, d2, d3, d4, d5] }
  | _ => none }
def ArchiveCodesWrongFalsely : Prop := archiveCodesRow.holds Tryz.pinned (OpenSpec.ofChange archiveCodesWrong)

/- THE SECOND FORM. 'bulk': how many values and letters a reading holds, each counted each time it is reached (what is shared counts as often as it is met; a slice's spare places count too). A statement '..UptoSaid' is the law's where the arguments, and the package variables that the reading takes, are together of bulk at most 1048576: NARROWER than '..Said'. Prove '..Said' where nothing that the law and all that it calls make is longer than what came in: it says more and counts as full. Else prove '..UptoSaid'. A law counts once. -/
mutual
def uptoBulk {H : Type} : DataW H → Nat
  | .lit (.string bytes) => bytes.length + 1
  | .lit _ => 1
  | .nil => 1
  | .ptr d => uptoBulk d + 1
  | .slice elems spare => uptoBulkAll elems + uptoBulkAll spare + 1
  | .agg parts => uptoBulkAll parts + 1
  | .iface _ d => uptoBulk d + 1
  | .map entries => uptoBulkEntries entries + 1
  | .held _ => 1
def uptoBulkAll {H : Type} : List (DataW H) → Nat
  | [] => 0
  | d :: r => uptoBulk d + uptoBulkAll r
def uptoBulkEntries {H : Type} : List (Lit × DataW H) → Nat
  | [] => 0
  | x :: r => uptoBulkEntry x + uptoBulkEntries r
def uptoBulkEntry {H : Type} : Lit × DataW H → Nat
  | (.string bytes, d) => bytes.length + uptoBulk d + 1
  | (_, d) => uptoBulk d + 1
 end
def uptoSmall : (H : Type) → List (DataW H) → Bool := fun _ ds => decide (uptoBulkAll ds ≤ 1048576)
def OpenSpec.upto (s : _root_.Go.ChangeSpec) : _root_.Go.OpenSpec := { _root_.Go.OpenSpec.ofChange s with cond := some uptoSmall }

/-- 'putloglaw39.ArchiveMatchesReference', WHERE WHAT IT READS IS OF BULK AT MOST 1048576: true; the input reads as it did. -/
def archiveMatchesReferenceUptoRow : OpenClaim := { program := "ytdnabfadigkjgaagreatdoor", sum := "6f455a8fb91b4b61c2540da04d8eac258bed362e4802967240347e8e2a4fd6ef", func := "putlog/putloglaw39.ArchiveMatchesReference", spec := "archiveMatchesReference", inPlace := ["internal/abi.NoEscape", "internal/bytealg.MakeNoZero"], unfollowed := true, recurses := true, named := ["putlog/digest.round"], apart := false, laid := [("putlog/digest.round", laid_putlog_digest_round)], narrowed := true }
def ArchiveMatchesReferenceUptoSaid : Prop := archiveMatchesReferenceUptoRow.holds Tryz.pinned (OpenSpec.upto archiveMatchesReferenceSpec)

/-- 'putloglaw39.ArchiveMerges', WHERE WHAT IT READS IS OF BULK AT MOST 1048576: true; the input reads as it did. -/
def archiveMergesUptoRow : OpenClaim := { program := "ytdnabfadigkjgaagreatdoor", sum := "6f455a8fb91b4b61c2540da04d8eac258bed362e4802967240347e8e2a4fd6ef", func := "putlog/putloglaw39.ArchiveMerges", spec := "archiveMerges", inPlace := ["internal/abi.NoEscape", "internal/bytealg.MakeNoZero"], unfollowed := true, recurses := true, named := ["putlog/digest.round"], apart := false, laid := [("putlog/digest.round", laid_putlog_digest_round)], narrowed := true }
def ArchiveMergesUptoSaid : Prop := archiveMergesUptoRow.holds Tryz.pinned (OpenSpec.upto archiveMergesSpec)

/-- 'putloglaw39.ArchiveOrder', WHERE WHAT IT READS IS OF BULK AT MOST 1048576: true; the input reads as it did. -/
def archiveOrderUptoRow : OpenClaim := { program := "ytdnabfadigkjgaagreatdoor", sum := "6f455a8fb91b4b61c2540da04d8eac258bed362e4802967240347e8e2a4fd6ef", func := "putlog/putloglaw39.ArchiveOrder", spec := "archiveOrder", inPlace := ["internal/abi.NoEscape", "internal/bytealg.MakeNoZero"], unfollowed := true, recurses := true, named := ["putlog/digest.round"], apart := false, laid := [("putlog/digest.round", laid_putlog_digest_round)], narrowed := true }
def ArchiveOrderUptoSaid : Prop := archiveOrderUptoRow.holds Tryz.pinned (OpenSpec.upto archiveOrderSpec)

/-- 'putloglaw39.ArchiveChains', WHERE WHAT IT READS IS OF BULK AT MOST 1048576: true; the input reads as it did. -/
def archiveChainsUptoRow : OpenClaim := { program := "ytdnabfadigkjgaagreatdoor", sum := "6f455a8fb91b4b61c2540da04d8eac258bed362e4802967240347e8e2a4fd6ef", func := "putlog/putloglaw39.ArchiveChains", spec := "archiveChains", inPlace := ["internal/abi.NoEscape", "internal/bytealg.MakeNoZero"], unfollowed := true, recurses := true, named := ["putlog/digest.round"], apart := false, laid := [("putlog/digest.round", laid_putlog_digest_round)], narrowed := true }
def ArchiveChainsUptoSaid : Prop := archiveChainsUptoRow.holds Tryz.pinned (OpenSpec.upto archiveChainsSpec)

/-- 'putloglaw39.ArchiveForks', WHERE WHAT IT READS IS OF BULK AT MOST 1048576: true; the input reads as it did. -/
def archiveForksUptoRow : OpenClaim := { program := "ytdnabfadigkjgaagreatdoor", sum := "6f455a8fb91b4b61c2540da04d8eac258bed362e4802967240347e8e2a4fd6ef", func := "putlog/putloglaw39.ArchiveForks", spec := "archiveForks", inPlace := ["internal/abi.NoEscape", "internal/bytealg.MakeNoZero"], unfollowed := true, recurses := true, named := ["putlog/digest.round"], apart := false, laid := [("putlog/digest.round", laid_putlog_digest_round)], narrowed := true }
def ArchiveForksUptoSaid : Prop := archiveForksUptoRow.holds Tryz.pinned (OpenSpec.upto archiveForksSpec)

/-- 'putloglaw39.ArchiveRetracts', WHERE WHAT IT READS IS OF BULK AT MOST 1048576: true; the input reads as it did. -/
def archiveRetractsUptoRow : OpenClaim := { program := "ytdnabfadigkjgaagreatdoor", sum := "6f455a8fb91b4b61c2540da04d8eac258bed362e4802967240347e8e2a4fd6ef", func := "putlog/putloglaw39.ArchiveRetracts", spec := "archiveRetracts", inPlace := ["internal/abi.NoEscape", "internal/bytealg.MakeNoZero"], unfollowed := true, recurses := true, named := ["putlog/digest.round"], apart := false, laid := [("putlog/digest.round", laid_putlog_digest_round)], narrowed := true }
def ArchiveRetractsUptoSaid : Prop := archiveRetractsUptoRow.holds Tryz.pinned (OpenSpec.upto archiveRetractsSpec)

/-- 'putloglaw39.ArchiveSigns', WHERE WHAT IT READS IS OF BULK AT MOST 1048576: true; the input reads as it did. -/
def archiveSignsUptoRow : OpenClaim := { program := "ytdnabfadigkjgaagreatdoor", sum := "6f455a8fb91b4b61c2540da04d8eac258bed362e4802967240347e8e2a4fd6ef", func := "putlog/putloglaw39.ArchiveSigns", spec := "archiveSigns", inPlace := ["internal/abi.NoEscape", "internal/bytealg.MakeNoZero"], unfollowed := true, recurses := true, named := ["putlog/digest.round"], apart := false, laid := [("putlog/digest.round", laid_putlog_digest_round)], narrowed := true }
def ArchiveSignsUptoSaid : Prop := archiveSignsUptoRow.holds Tryz.pinned (OpenSpec.upto archiveSignsSpec)

/-- 'putloglaw39.ArchiveCodes', WHERE WHAT IT READS IS OF BULK AT MOST 1048576: true; the input reads as it did. -/
def archiveCodesUptoRow : OpenClaim := { program := "ytdnabfadigkjgaagreatdoor", sum := "6f455a8fb91b4b61c2540da04d8eac258bed362e4802967240347e8e2a4fd6ef", func := "putlog/putloglaw39.ArchiveCodes", spec := "archiveCodes", inPlace := ["internal/abi.NoEscape", "internal/bytealg.MakeNoZero"], unfollowed := true, recurses := true, named := ["putlog/digest.round"], apart := false, laid := [("putlog/digest.round", laid_putlog_digest_round)], narrowed := true }
def ArchiveCodesUptoSaid : Prop := archiveCodesUptoRow.holds Tryz.pinned (OpenSpec.upto archiveCodesSpec)

end Rows
end Go.Proofs.YtdnabfadigkjgaaGreatDoor
