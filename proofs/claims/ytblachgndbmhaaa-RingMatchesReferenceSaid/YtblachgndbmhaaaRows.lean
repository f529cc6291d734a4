/-
  No cell of these rows narrows 'for every input' (looked for: loops, veiled, ifaces, maps, wideKeys, modest, calm, conditions, laid).
  DERIVED. THE GIVEN ROWS OF THIS SEAT. 8 by the template 'for every input the law returns true; each argument reads behind the call as it read before'; 0 by the template 'total and deterministic' (their statements: YtblachgndbmhaaaTotals.lean).
  GIVEN WITH THE SEED: the statements are not yours to turn. If you find one false, say at which input.
  Laid BY PROGRAM, IN A SANDBOX (cutbox-rows.mjs): the forced cells as the released guide's own fill.sh prints them over the translation e0e8b23585a23e96… (all of the seat's roots in one cut). By AI agents, Wed Nov 11 2026. No macro, syntax, notation, axiom, sorry.
-/
import Derived.Test.YtblachgndbmhaaaChecked
import GoSem.Claim
import GoSem.ClaimJoined
import GoSem.ClaimMapViews
import Derived.JoinedTies
import Derived.KernelRfl
namespace Go.Proofs.Ytblachgndbmhaaa
/- THE CELL 'sum', in the pinned program and in every row, IS THE sha256 OF THE DUMP (.gsa) THAT YtblachgndbmhaaaProg.lean LOADS. Nothing in Lean hashes anything: it is a label: what it is worth is what the hold of that sum in a sandbox is worth. -/
noncomputable def Try.pinned : Pinned := { name := "ytblachgndbmhaaa", sum := "e0e8b23585a23e96cf9c4913eff3525b9da2e4651d5622e5d1ea6f3a1e170e43", checked := Try.checked }
namespace Rows
def none {H : Type} : Left H := { results := [], args := [] }

/-- 'putloglaw21.RingMatchesReference': WHATEVER THE INPUT: true; the input reads as it did. -/
def ringMatchesReferenceSpec : ChangeSpec := { name := "ringMatchesReference", fn := fun _ => fun
  | [d1, d2, d3, d4, d5, d6, d7, d8, d9, d10, d11, d12] => { results := [.lit (.bool true)], args := [d1, d2, d3, d4, d5, d6, d7, d8, d9, d10, d11, d12] }
  | _ => none }
def ringMatchesReferenceRow : OpenClaim := { program := "ytblachgndbmhaaa", sum := "e0e8b23585a23e96cf9c4913eff3525b9da2e4651d5622e5d1ea6f3a1e170e43", func := "putlog/putloglaw21.RingMatchesReference", spec := "ringMatchesReference", unfollowed := true, recurses := true, apart := false }
def RingMatchesReferenceSaid : Prop := ringMatchesReferenceRow.holds Try.pinned (OpenSpec.ofChange ringMatchesReferenceSpec)

/-- ITS FALSE NEIGHBOUR: 'it returns false'. Refute it at one input. -/
def ringMatchesReferenceWrong : ChangeSpec := { name := "ringMatchesReference", fn := fun _ => fun
  | [d1, d2, d3, d4, d5, d6, d7, d8, d9, d10, d11, d12] => { results := [.lit (.bool false)], args := [d1, d2, d3, d4, d5, d6, d7, d8, d9, d10, d11, d12] }
  | _ => none }
def RingMatchesReferenceWrongFalsely : Prop := ringMatchesReferenceRow.holds Try.pinned (OpenSpec.ofChange ringMatchesReferenceWrong)

/-- 'putloglaw21.RingDates': WHATEVER THE INPUT: true; the input reads as it did. -/
def ringDatesSpec : ChangeSpec := { name := "ringDates", fn := fun _ => fun
  | [d1, d2, d3, d4, d5, d6] => { results := [.lit (.bool true)], args := [d1, d2, d3, d4, d5, d6] }
  | _ => none }
def ringDatesRow : OpenClaim := { program := "ytblachgndbmhaaa", sum := "e0e8b23585a23e96cf9c4913eff3525b9da2e4651d5622e5d1ea6f3a1e170e43", func := "putlog/putloglaw21.RingDates", spec := "ringDates", unfollowed := true, recurses := true, apart := false }
def RingDatesSaid : Prop := ringDatesRow.holds Try.pinned (OpenSpec.ofChange ringDatesSpec)

/-- ITS FALSE NEIGHBOUR: 'it returns false'. Refute it at one input. -/
def ringDatesWrong : ChangeSpec := { name := "ringDates", fn := fun _ => fun
  | [d1, d2, d3, d4, d5, d6] => { results := [.lit (.bool false)], args := [d1, d2, d3, d4, d5, d6] }
  | _ => none }
def RingDatesWrongFalsely : Prop := ringDatesRow.holds Try.pinned (OpenSpec.ofChange ringDatesWrong)

/-- 'putloglaw21.RingLists': WHATEVER THE INPUT: true; the input reads as it did. -/
def ringListsSpec : ChangeSpec := { name := "ringLists", fn := fun _ => fun
  | [d1, d2, d3, d4, d5, d6] => { results := [.lit (.bool true)], args := [d1, d2, d3, d4, d5, d6] }
  | _ => none }
def ringListsRow : OpenClaim := { program := "ytblachgndbmhaaa", sum := "e0e8b23585a23e96cf9c4913eff3525b9da2e4651d5622e5d1ea6f3a1e170e43", func := "putlog/putloglaw21.RingLists", spec := "ringLists", unfollowed := true, recurses := true, apart := false }
def RingListsSaid : Prop := ringListsRow.holds Try.pinned (OpenSpec.ofChange ringListsSpec)

/-- ITS FALSE NEIGHBOUR: 'it returns false'. Refute it at one input. -/
def ringListsWrong : ChangeSpec := { name := "ringLists", fn := fun _ => fun
  | [d1, d2, d3, d4, d5, d6] => { results := [.lit (.bool false)], args := [d1, d2, d3, d4, d5, d6] }
  | _ => none }
def RingListsWrongFalsely : Prop := ringListsRow.holds Try.pinned (OpenSpec.ofChange ringListsWrong)

/-- 'putloglaw21.RingScales': WHATEVER THE INPUT: true; the input reads as it did. -/
def ringScalesSpec : ChangeSpec := { name := "ringScales", fn := fun _ => fun
  | [d1, d2, d3, d4, d5, d6, d7, d8] => { results := [.lit (.bool true)], args := [d1, d2, d3, d4, d5, d6, d7, d8] }
  | _ => none }
def ringScalesRow : OpenClaim := { program := "ytblachgndbmhaaa", sum := "e0e8b23585a23e96cf9c4913eff3525b9da2e4651d5622e5d1ea6f3a1e170e43", func := "putlog/putloglaw21.RingScales", spec := "ringScales", unfollowed := true, recurses := true, apart := false }
def RingScalesSaid : Prop := ringScalesRow.holds Try.pinned (OpenSpec.ofChange ringScalesSpec)

/-- ITS FALSE NEIGHBOUR: 'it returns false'. Refute it at one input. -/
def ringScalesWrong : ChangeSpec := { name := "ringScales", fn := fun _ => fun
  | [d1, d2, d3, d4, d5, d6, d7, d8] => { results := [.lit (.bool false)], args := [d1, d2, d3, d4, d5, d6, d7, d8] }
  | _ => none }
def RingScalesWrongFalsely : Prop := ringScalesRow.holds Try.pinned (OpenSpec.ofChange ringScalesWrong)

/-- 'putloglaw21.RingDivides': WHATEVER THE INPUT: true; the input reads as it did. -/
def ringDividesSpec : ChangeSpec := { name := "ringDivides", fn := fun _ => fun
  | [d1, d2, d3, d4, d5, d6, d7] => { results := [.lit (.bool true)], args := [d1, d2, d3, d4, d5, d6, d7] }
  | _ => none }
def ringDividesRow : OpenClaim := { program := "ytblachgndbmhaaa", sum := "e0e8b23585a23e96cf9c4913eff3525b9da2e4651d5622e5d1ea6f3a1e170e43", func := "putlog/putloglaw21.RingDivides", spec := "ringDivides", unfollowed := true, recurses := true, apart := false }
def RingDividesSaid : Prop := ringDividesRow.holds Try.pinned (OpenSpec.ofChange ringDividesSpec)

/-- ITS FALSE NEIGHBOUR: 'it returns false'. Refute it at one input. -/
def ringDividesWrong : ChangeSpec := { name := "ringDivides", fn := fun _ => fun
  | [d1, d2, d3, d4, d5, d6, d7] => { results := [.lit (.bool false)], args := [d1, d2, d3, d4, d5, d6, d7] }
  | _ => none }
def RingDividesWrongFalsely : Prop := ringDividesRow.holds Try.pinned (OpenSpec.ofChange ringDividesWrong)

/-- 'putloglaw21.RingLonger': WHATEVER THE INPUT: true; the input reads as it did. -/
def ringLongerSpec : ChangeSpec := { name := "ringLonger", fn := fun _ => fun
  | [d1, d2, d3, d4, d5, d6, d7, d8] => { results := [.lit (.bool true)], args := [d1, d2, d3, d4, d5, d6, d7, d8] }
  | _ => none }
def ringLongerRow : OpenClaim := { program := "ytblachgndbmhaaa", sum := "e0e8b23585a23e96cf9c4913eff3525b9da2e4651d5622e5d1ea6f3a1e170e43", func := "putlog/putloglaw21.RingLonger", spec := "ringLonger", unfollowed := true, recurses := true, apart := false }
def RingLongerSaid : Prop := ringLongerRow.holds Try.pinned (OpenSpec.ofChange ringLongerSpec)

/-- ITS FALSE NEIGHBOUR: 'it returns false'. Refute it at one input. -/
def ringLongerWrong : ChangeSpec := { name := "ringLonger", fn := fun _ => fun
  | [d1, d2, d3, d4, d5, d6, d7, d8] => { results := [.lit (.bool false)], args := [d1, d2, d3, d4, d5, d6, d7, d8] }
  | _ => none }
def RingLongerWrongFalsely : Prop := ringLongerRow.holds Try.pinned (OpenSpec.ofChange ringLongerWrong)

/-- 'putloglaw21.RingCrosses': WHATEVER THE INPUT: true; the input reads as it did. -/
def ringCrossesSpec : ChangeSpec := { name := "ringCrosses", fn := fun _ => fun
  | [d1, d2, d3, d4, d5, d6] => { results := [.lit (.bool true)], args := [d1, d2, d3, d4, d5, d6] }
  | _ => none }
def ringCrossesRow : OpenClaim := { program := "ytblachgndbmhaaa", sum := "e0e8b23585a23e96cf9c4913eff3525b9da2e4651d5622e5d1ea6f3a1e170e43", func := "putlog/putloglaw21.RingCrosses", spec := "ringCrosses", unfollowed := true, recurses := true, apart := false }
def RingCrossesSaid : Prop := ringCrossesRow.holds Try.pinned (OpenSpec.ofChange ringCrossesSpec)

/-- ITS FALSE NEIGHBOUR: 'it returns false'. Refute it at one input. -/
def ringCrossesWrong : ChangeSpec := { name := "ringCrosses", fn := fun _ => fun
  | [d1, d2, d3, d4, d5, d6] => { results := [.lit (.bool false)], args := [d1, d2, d3, d4, d5, d6] }
  | _ => none }
def RingCrossesWrongFalsely : Prop := ringCrossesRow.holds Try.pinned (OpenSpec.ofChange ringCrossesWrong)

/-- 'putloglaw21.RingFells': WHATEVER THE INPUT: true; the input reads as it did. -/
def ringFellsSpec : ChangeSpec := { name := "ringFells", fn := fun _ => fun
  | [d1, d2, d3] => { results := [.lit (.bool true)], args := [d1, d2, d3] }
  | _ => none }
def ringFellsRow : OpenClaim := { program := "ytblachgndbmhaaa", sum := "e0e8b23585a23e96cf9c4913eff3525b9da2e4651d5622e5d1ea6f3a1e170e43", func := "putlog/putloglaw21.RingFells", spec := "ringFells", unfollowed := true, recurses := true, apart := false }
def RingFellsSaid : Prop := ringFellsRow.holds Try.pinned (OpenSpec.ofChange ringFellsSpec)

/-- ITS FALSE NEIGHBOUR: 'it returns false'. Refute it at one input. -/
def ringFellsWrong : ChangeSpec := { name := "ringFells", fn := fun _ => fun
  | [d1, d2, d3] => { results := [.lit (.bool false)], args := [d1, d2, d3] }
  | _ => none }
def RingFellsWrongFalsely : Prop := ringFellsRow.holds Try.pinned (OpenSpec.ofChange ringFellsWrong)

/- THE SECOND FORM. 'bulk': how many values and letters a reading holds, each counted each time it is reached (what is shared counts as often as it is met; a slice's spare places count too). A statement '..UptoSaid' is the law's where the arguments, and the package variables that the reading takes, are together of bulk at most 1048576: NARROWER than '..Said'. Prove '..Said' where nothing that the law and all that it calls make is longer than what came in: it says more and counts as full. Else prove '..UptoSaid'. A law counts once. -/
mutual
def uptoBulk {H : Type} : DataW H → Nat
  | .lit (.string bytes) => bytes.length + 1
  | .lit _ => 1
  | .nil => 1
  | .ptr d => uptoBulk d + 1
  | .slice elems spare => uptoBulkAll elems + uptoBulkAll spare + 1
  | .agg parts => uptoBulkAll parts + 1
  | .iface _ d => uptoBulk d + 1
  | .map entries => uptoBulkEntries entries + 1
  | .held _ => 1
def uptoBulkAll {H : Type} : List (DataW H) → Nat
  | [] => 0
  | d :: r => uptoBulk d + uptoBulkAll r
def uptoBulkEntries {H : Type} : List (Lit × DataW H) → Nat
  | [] => 0
  | x :: r => uptoBulkEntry x + uptoBulkEntries r
def uptoBulkEntry {H : Type} : Lit × DataW H → Nat
  | (.string bytes, d) => bytes.length + uptoBulk d + 1
  | (_, d) => uptoBulk d + 1
 end
def uptoSmall : (H : Type) → List (DataW H) → Bool := fun _ ds => decide (uptoBulkAll ds ≤ 1048576)
def OpenSpec.upto (s : _root_.Go.ChangeSpec) : _root_.Go.OpenSpec := { _root_.Go.OpenSpec.ofChange s with cond := some uptoSmall }

/-- 'putloglaw21.RingMatchesReference', WHERE WHAT IT READS IS OF BULK AT MOST 1048576: true; the input reads as it did. -/
def ringMatchesReferenceUptoRow : OpenClaim := { program := "ytblachgndbmhaaa", sum := "e0e8b23585a23e96cf9c4913eff3525b9da2e4651d5622e5d1ea6f3a1e170e43", func := "putlog/putloglaw21.RingMatchesReference", spec := "ringMatchesReference", unfollowed := true, recurses := true, apart := false, narrowed := true }
def RingMatchesReferenceUptoSaid : Prop := ringMatchesReferenceUptoRow.holds Try.pinned (OpenSpec.upto ringMatchesReferenceSpec)

/-- 'putloglaw21.RingDates', WHERE WHAT IT READS IS OF BULK AT MOST 1048576: true; the input reads as it did. -/
def ringDatesUptoRow : OpenClaim := { program := "ytblachgndbmhaaa", sum := "e0e8b23585a23e96cf9c4913eff3525b9da2e4651d5622e5d1ea6f3a1e170e43", func := "putlog/putloglaw21.RingDates", spec := "ringDates", unfollowed := true, recurses := true, apart := false, narrowed := true }
def RingDatesUptoSaid : Prop := ringDatesUptoRow.holds Try.pinned (OpenSpec.upto ringDatesSpec)

/-- 'putloglaw21.RingLists', WHERE WHAT IT READS IS OF BULK AT MOST 1048576: true; the input reads as it did. -/
def ringListsUptoRow : OpenClaim := { program := "ytblachgndbmhaaa", sum := "e0e8b23585a23e96cf9c4913eff3525b9da2e4651d5622e5d1ea6f3a1e170e43", func := "putlog/putloglaw21.RingLists", spec := "ringLists", unfollowed := true, recurses := true, apart := false, narrowed := true }
def RingListsUptoSaid : Prop := ringListsUptoRow.holds Try.pinned (OpenSpec.upto ringListsSpec)

/-- 'putloglaw21.RingScales', WHERE WHAT IT READS IS OF BULK AT MOST 1048576: true; the input reads as it did. -/
def ringScalesUptoRow : OpenClaim := { program := "ytblachgndbmhaaa", sum := "e0e8b23585a23e96cf9c4913eff3525b9da2e4651d5622e5d1ea6f3a1e170e43", func := "putlog/putloglaw21.RingScales", spec := "ringScales", unfollowed := true, recurses := true, apart := false, narrowed := true }
def RingScalesUptoSaid : Prop := ringScalesUptoRow.holds Try.pinned (OpenSpec.upto ringScalesSpec)

/-- 'putloglaw21.RingDivides', WHERE WHAT IT READS IS OF BULK AT MOST 1048576: true; the input reads as it did. -/
def ringDividesUptoRow : OpenClaim := { program := "ytblachgndbmhaaa", sum := "e0e8b23585a23e96cf9c4913eff3525b9da2e4651d5622e5d1ea6f3a1e170e43", func := "putlog/putloglaw21.RingDivides", spec := "ringDivides", unfollowed := true, recurses := true, apart := false, narrowed := true }
def RingDividesUptoSaid : Prop := ringDividesUptoRow.holds Try.pinned (OpenSpec.upto ringDividesSpec)

/-- 'putloglaw21.RingLonger', WHERE WHAT IT READS IS OF BULK AT MOST 1048576: true; the input reads as it did. -/
def ringLongerUptoRow : OpenClaim := { program := "ytblachgndbmhaaa", sum := "e0e8b23585a23e96cf9c4913eff3525b9da2e4651d5622e5d1ea6f3a1e170e43", func := "putlog/putloglaw21.RingLonger", spec := "ringLonger", unfollowed := true, recurses := true, apart := false, narrowed := true }
def RingLongerUptoSaid : Prop := ringLongerUptoRow.holds Try.pinned (OpenSpec.upto ringLongerSpec)

/-- 'putloglaw21.RingCrosses', WHERE WHAT IT READS IS OF BULK AT MOST 1048576: true; the input reads as it did. -/
def ringCrossesUptoRow : OpenClaim := { program := "ytblachgndbmhaaa", sum := "e0e8b23585a23e96cf9c4913eff3525b9da2e4651d5622e5d1ea6f3a1e170e43", func := "putlog/putloglaw21.RingCrosses", spec := "ringCrosses", unfollowed := true, recurses := true, apart := false, narrowed := true }
def RingCrossesUptoSaid : Prop := ringCrossesUptoRow.holds Try.pinned (OpenSpec.upto ringCrossesSpec)

/-- 'putloglaw21.RingFells', WHERE WHAT IT READS IS OF BULK AT MOST 1048576: true; the input reads as it did. -/
def ringFellsUptoRow : OpenClaim := { program := "ytblachgndbmhaaa", sum := "e0e8b23585a23e96cf9c4913eff3525b9da2e4651d5622e5d1ea6f3a1e170e43", func := "putlog/putloglaw21.RingFells", spec := "ringFells", unfollowed := true, recurses := true, apart := false, narrowed := true }
def RingFellsUptoSaid : Prop := ringFellsUptoRow.holds Try.pinned (OpenSpec.upto ringFellsSpec)

end Rows
end Go.Proofs.Ytblachgndbmhaaa
