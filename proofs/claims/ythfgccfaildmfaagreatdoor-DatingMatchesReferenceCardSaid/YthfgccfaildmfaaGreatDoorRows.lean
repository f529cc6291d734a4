/-
  NARROWER THAN 'FOR EVERY INPUT', by the rows' own cells (each row's printed sentence says how): DatingMatchesReference: calm, laid · DatingExact: laid · DatingSound: calm, laid · DatingCertain: laid · DatingRetracts: laid · DatingOrder: calm, laid · DatingBlames: laid.
  DERIVED. THE GIVEN ROWS OF THIS SEAT. 7 by the template 'for every input the law returns true; each argument reads behind the call as it read before'; 0 by the template 'total and deterministic' (their statements: YthfgccfaildmfaaGreatDoorTotals.lean).
  GIVEN WITH THE SEED: the statements are not yours to turn. If you find one false, say at which input.
  Laid BY PROGRAM, IN A SANDBOX (cutbox-rows.mjs): the forced cells as the released guide's own fill.sh prints them over the translation ee757fa0ada6d5b2… (all of the seat's roots in one cut). By AI agents, Wed Nov 11 2026. No macro, syntax, notation, axiom, sorry.
-/
import Derived.Test.YthfgccfaildmfaaGreatDoorChecked
import GoSem.Claim
import GoSem.ClaimJoined
import GoSem.ClaimMapViews
import Derived.JoinedTies
import Derived.KernelRfl
namespace Go.Proofs.YthfgccfaildmfaaGreatDoor
/- THE CELL 'sum', in the pinned program and in every row, IS THE sha256 OF THE DUMP (.gsa) THAT YthfgccfaildmfaaGreatDoorProg.lean LOADS. Nothing in Lean hashes anything: it is a label: what it is worth is what the hold of that sum in a sandbox is worth. -/
noncomputable def Tryz.pinned : Pinned := { name := "ythfgccfaildmfaagreatdoor", sum := "ee757fa0ada6d5b2273585a029c5d20774afb9c0c72e1e1bed5812deb785abc6", checked := Tryz.checked }
namespace Rows
def none {H : Type} : Left H := { results := [], args := [] }

/- WHAT THE LISTED PACKAGE-LEVEL VARIABLES READ AS WHEN THE CALL BEGINS. Each datum BY PROGRAM (the guide's laid-datum.mjs) off the statement by which the dump's own 'gosem.cut.vars' lays the variable. In a bare row this is a premise. The card (YthfgccfaildmfaaGreatDoorCards.lean) ties it to the program's text. -/
def laid_putlog_calendar_lengths {H : Type} : DataW H := .agg [.lit (.int .i64 0), .lit (.int .i64 31), .lit (.int .i64 28), .lit (.int .i64 31), .lit (.int .i64 30), .lit (.int .i64 31), .lit (.int .i64 30), .lit (.int .i64 31), .lit (.int .i64 31), .lit (.int .i64 30), .lit (.int .i64 31), .lit (.int .i64 30), .lit (.int .i64 31)]

/-- 'putloglaw22.DatingMatchesReference': WHATEVER THE INPUT: true; the input reads as it did. -/
def datingMatchesReferenceSpec : ChangeSpec := { name := "datingMatchesReference", fn := fun _ => fun
  | [d1, d2, d3, d4, d5, d6, d7, d8] => { results := [.lit (.bool true)], args := [d1, d2, d3, d4, d5, d6, d7, d8] }
  | _ => none }
def datingMatchesReferenceRow : OpenClaim := { program := "ythfgccfaildmfaagreatdoor", sum := "ee757fa0ada6d5b2273585a029c5d20774afb9c0c72e1e1bed5812deb785abc6", func := "putlog/putloglaw22.DatingMatchesReference", spec := "datingMatchesReference", unfollowed := true, recurses := true, named := ["putlog/calendar.lengths", "putlog/calendar.feasts"], apart := false, calm := true, outside := [.timePasses], laid := [("putlog/calendar.lengths", laid_putlog_calendar_lengths)] }
def DatingMatchesReferenceSaid : Prop := datingMatchesReferenceRow.holds Tryz.pinned (OpenSpec.ofChange datingMatchesReferenceSpec)

/-- ITS FALSE NEIGHBOUR: 'it returns false'. Refute it at one input. -/
def datingMatchesReferenceWrong : ChangeSpec := { name := "datingMatchesReference", fn := fun _ => fun
  | [d1, d2, d3, d4, d5, d6, d7, d8] => { results := [.lit (.bool false)], args := [d1, d2, d3, d4, d5, d6, d7, d8] }
  | _ => none }
def DatingMatchesReferenceWrongFalsely : Prop := datingMatchesReferenceRow.holds Tryz.pinned (OpenSpec.ofChange datingMatchesReferenceWrong)

/-- 'putloglaw22.DatingExact': WHATEVER THE INPUT: true; the input reads as it did. -/
def datingExactSpec : ChangeSpec := { name := "datingExact", fn := fun _ => fun
  | [d1, d2, d3, d4] => { results := [.lit (.bool true)], args := [d1, d2, d3, d4] }
  | _ => none }
def datingExactRow : OpenClaim := { program := "ythfgccfaildmfaagreatdoor", sum := "ee757fa0ada6d5b2273585a029c5d20774afb9c0c72e1e1bed5812deb785abc6", func := "putlog/putloglaw22.DatingExact", spec := "datingExact", unfollowed := true, recurses := true, named := ["putlog/calendar.lengths", "putlog/calendar.feasts"], apart := false, laid := [("putlog/calendar.lengths", laid_putlog_calendar_lengths)] }
def DatingExactSaid : Prop := datingExactRow.holds Tryz.pinned (OpenSpec.ofChange datingExactSpec)

/-- ITS FALSE NEIGHBOUR: 'it returns false'. Refute it at one input. -/
def datingExactWrong : ChangeSpec := { name := "datingExact", fn := fun _ => fun
  | [d1, d2, d3, d4] => { results := [.lit (.bool false)], args := [d1, d2, d3, d4] }
  | _ => none }
def DatingExactWrongFalsely : Prop := datingExactRow.holds Tryz.pinned (OpenSpec.ofChange datingExactWrong)

/-- 'putloglaw22.DatingSound': WHATEVER THE INPUT: true; the input reads as it did. -/
def datingSoundSpec : ChangeSpec := { name := "datingSound", fn := fun _ => fun
  | [d1, d2] => { results := [.lit (.bool true)], args := [d1, d2] }
  | _ => none }
def datingSoundRow : OpenClaim := { program := "ythfgccfaildmfaagreatdoor", sum := "ee757fa0ada6d5b2273585a029c5d20774afb9c0c72e1e1bed5812deb785abc6", func := "putlog/putloglaw22.DatingSound", spec := "datingSound", unfollowed := true, recurses := true, named := ["putlog/calendar.lengths", "putlog/calendar.feasts"], apart := false, calm := true, outside := [.timePasses], laid := [("putlog/calendar.lengths", laid_putlog_calendar_lengths)] }
def DatingSoundSaid : Prop := datingSoundRow.holds Tryz.pinned (OpenSpec.ofChange datingSoundSpec)

/-- ITS FALSE NEIGHBOUR: 'it returns false'. Refute it at one input. -/
def datingSoundWrong : ChangeSpec := { name := "datingSound", fn := fun _ => fun
  | [d1, d2] => { results := [.lit (.bool false)], args := [d1, d2] }
  | _ => none }
def DatingSoundWrongFalsely : Prop := datingSoundRow.holds Tryz.pinned (OpenSpec.ofChange datingSoundWrong)

/-- 'putloglaw22.DatingCertain': WHATEVER THE INPUT: true; the input reads as it did. -/
def datingCertainSpec : ChangeSpec := { name := "datingCertain", fn := fun _ => fun
  | [d1, d2, d3, d4, d5, d6] => { results := [.lit (.bool true)], args := [d1, d2, d3, d4, d5, d6] }
  | _ => none }
def datingCertainRow : OpenClaim := { program := "ythfgccfaildmfaagreatdoor", sum := "ee757fa0ada6d5b2273585a029c5d20774afb9c0c72e1e1bed5812deb785abc6", func := "putlog/putloglaw22.DatingCertain", spec := "datingCertain", unfollowed := true, recurses := true, named := ["putlog/calendar.lengths", "putlog/calendar.feasts"], apart := false, laid := [("putlog/calendar.lengths", laid_putlog_calendar_lengths)] }
def DatingCertainSaid : Prop := datingCertainRow.holds Tryz.pinned (OpenSpec.ofChange datingCertainSpec)

/-- ITS FALSE NEIGHBOUR: 'it returns false'. Refute it at one input. -/
def datingCertainWrong : ChangeSpec := { name := "datingCertain", fn := fun _ => fun
  | [d1, d2, d3, d4, d5, d6] => { results := [.lit (.bool false)], args := [d1, d2, d3, d4, d5, d6] }
  | _ => none }
def DatingCertainWrongFalsely : Prop := datingCertainRow.holds Tryz.pinned (OpenSpec.ofChange datingCertainWrong)

/-- 'putloglaw22.DatingRetracts': WHATEVER THE INPUT: true; the input reads as it did. -/
def datingRetractsSpec : ChangeSpec := { name := "datingRetracts", fn := fun _ => fun
  | [d1, d2] => { results := [.lit (.bool true)], args := [d1, d2] }
  | _ => none }
def datingRetractsRow : OpenClaim := { program := "ythfgccfaildmfaagreatdoor", sum := "ee757fa0ada6d5b2273585a029c5d20774afb9c0c72e1e1bed5812deb785abc6", func := "putlog/putloglaw22.DatingRetracts", spec := "datingRetracts", unfollowed := true, recurses := true, named := ["putlog/calendar.lengths", "putlog/calendar.feasts"], apart := false, laid := [("putlog/calendar.lengths", laid_putlog_calendar_lengths)] }
def DatingRetractsSaid : Prop := datingRetractsRow.holds Tryz.pinned (OpenSpec.ofChange datingRetractsSpec)

/-- ITS FALSE NEIGHBOUR: 'it returns false'. Refute it at one input. -/
def datingRetractsWrong : ChangeSpec := { name := "datingRetracts", fn := fun _ => fun
  | [d1, d2] => { results := [.lit (.bool false)], args := [d1, d2] }
  | _ => none }
def DatingRetractsWrongFalsely : Prop := datingRetractsRow.holds Tryz.pinned (OpenSpec.ofChange datingRetractsWrong)

/-- 'putloglaw22.DatingOrder': WHATEVER THE INPUT: true; the input reads as it did. -/
def datingOrderSpec : ChangeSpec := { name := "datingOrder", fn := fun _ => fun
  | [d1, d2, d3] => { results := [.lit (.bool true)], args := [d1, d2, d3] }
  | _ => none }
def datingOrderRow : OpenClaim := { program := "ythfgccfaildmfaagreatdoor", sum := "ee757fa0ada6d5b2273585a029c5d20774afb9c0c72e1e1bed5812deb785abc6", func := "putlog/putloglaw22.DatingOrder", spec := "datingOrder", unfollowed := true, recurses := true, named := ["putlog/calendar.lengths", "putlog/calendar.feasts"], apart := false, calm := true, outside := [.timePasses], laid := [("putlog/calendar.lengths", laid_putlog_calendar_lengths)] }
def DatingOrderSaid : Prop := datingOrderRow.holds Tryz.pinned (OpenSpec.ofChange datingOrderSpec)

/-- ITS FALSE NEIGHBOUR: 'it returns false'. Refute it at one input. -/
def datingOrderWrong : ChangeSpec := { name := "datingOrder", fn := fun _ => fun
  | [d1, d2, d3] => { results := [.lit (.bool false)], args := [d1, d2, d3] }
  | _ => none }
def DatingOrderWrongFalsely : Prop := datingOrderRow.holds Tryz.pinned (OpenSpec.ofChange datingOrderWrong)

/-- 'putloglaw22.DatingBlames': WHATEVER THE INPUT: true; the input reads as it did. -/
def datingBlamesSpec : ChangeSpec := { name := "datingBlames", fn := fun _ => fun
  | [d1, d2] => { results := [.lit (.bool true)], args := [d1, d2] }
  | _ => none }
def datingBlamesRow : OpenClaim := { program := "ythfgccfaildmfaagreatdoor", sum := "ee757fa0ada6d5b2273585a029c5d20774afb9c0c72e1e1bed5812deb785abc6", func := "putlog/putloglaw22.DatingBlames", spec := "datingBlames", unfollowed := true, recurses := true, named := ["putlog/calendar.lengths", "putlog/calendar.feasts"], apart := false, laid := [("putlog/calendar.lengths", laid_putlog_calendar_lengths)] }
def DatingBlamesSaid : Prop := datingBlamesRow.holds Tryz.pinned (OpenSpec.ofChange datingBlamesSpec)

/-- ITS FALSE NEIGHBOUR: 'it returns false'. Refute it at one input. -/
def datingBlamesWrong : ChangeSpec := { name := "datingBlames", fn := fun _ => fun
  | [d1, d2] => { results := [.lit (.bool false)], args := [d1, d2] }
  | _ => none }
def DatingBlamesWrongFalsely : Prop := datingBlamesRow.holds Tryz.pinned (OpenSpec.ofChange datingBlamesWrong)

/- THE SECOND FORM. 'bulk': how many values and letters a reading holds, each counted each time it is reached (what is shared counts as often as it is met; a slice's spare places count too). A statement '..UptoSaid' is the law's where the arguments, and the package variables that the reading takes, are together of bulk at most 1048576: NARROWER than '..Said'. Prove '..Said' where nothing that the law and all that it calls make is longer than what came in: it says more and counts as full. Else prove '..UptoSaid'. A law counts once. -/
mutual
def uptoBulk {H : Type} : DataW H → Nat
  | .lit (.string bytes) => bytes.length + 1
  | .lit _ => 1
  | .nil => 1
  | .ptr d => uptoBulk d + 1
  | .slice elems spare => uptoBulkAll elems + uptoBulkAll spare + 1
  | .agg parts => uptoBulkAll parts + 1
  | .iface _ d => uptoBulk d + 1
  | .map entries => uptoBulkEntries entries + 1
  | .held _ => 1
def uptoBulkAll {H : Type} : List (DataW H) → Nat
  | [] => 0
  | d :: r => uptoBulk d + uptoBulkAll r
def uptoBulkEntries {H : Type} : List (Lit × DataW H) → Nat
  | [] => 0
  | x :: r => uptoBulkEntry x + uptoBulkEntries r
def uptoBulkEntry {H : Type} : Lit × DataW H → Nat
  | (.string bytes, d) => bytes.length + uptoBulk d + 1
  | (_, d) => uptoBulk d + 1
 end
def uptoSmall : (H : Type) → List (DataW H) → Bool := fun _ ds => decide (uptoBulkAll ds ≤ 1048576)
def OpenSpec.upto (s : _root_.Go.ChangeSpec) : _root_.Go.OpenSpec := { _root_.Go.OpenSpec.ofChange s with cond := some uptoSmall }

/-- 'putloglaw22.DatingExact', WHERE WHAT IT READS IS OF BULK AT MOST 1048576: true; the input reads as it did. -/
def datingExactUptoRow : OpenClaim := { program := "ythfgccfaildmfaagreatdoor", sum := "ee757fa0ada6d5b2273585a029c5d20774afb9c0c72e1e1bed5812deb785abc6", func := "putlog/putloglaw22.DatingExact", spec := "datingExact", unfollowed := true, recurses := true, named := ["putlog/calendar.lengths", "putlog/calendar.feasts"], apart := false, laid := [("putlog/calendar.lengths", laid_putlog_calendar_lengths)], narrowed := true }
def DatingExactUptoSaid : Prop := datingExactUptoRow.holds Tryz.pinned (OpenSpec.upto datingExactSpec)

/-- 'putloglaw22.DatingCertain', WHERE WHAT IT READS IS OF BULK AT MOST 1048576: true; the input reads as it did. -/
def datingCertainUptoRow : OpenClaim := { program := "ythfgccfaildmfaagreatdoor", sum := "ee757fa0ada6d5b2273585a029c5d20774afb9c0c72e1e1bed5812deb785abc6", func := "putlog/putloglaw22.DatingCertain", spec := "datingCertain", unfollowed := true, recurses := true, named := ["putlog/calendar.lengths", "putlog/calendar.feasts"], apart := false, laid := [("putlog/calendar.lengths", laid_putlog_calendar_lengths)], narrowed := true }
def DatingCertainUptoSaid : Prop := datingCertainUptoRow.holds Tryz.pinned (OpenSpec.upto datingCertainSpec)

/-- 'putloglaw22.DatingRetracts', WHERE WHAT IT READS IS OF BULK AT MOST 1048576: true; the input reads as it did. -/
def datingRetractsUptoRow : OpenClaim := { program := "ythfgccfaildmfaagreatdoor", sum := "ee757fa0ada6d5b2273585a029c5d20774afb9c0c72e1e1bed5812deb785abc6", func := "putlog/putloglaw22.DatingRetracts", spec := "datingRetracts", unfollowed := true, recurses := true, named := ["putlog/calendar.lengths", "putlog/calendar.feasts"], apart := false, laid := [("putlog/calendar.lengths", laid_putlog_calendar_lengths)], narrowed := true }
def DatingRetractsUptoSaid : Prop := datingRetractsUptoRow.holds Tryz.pinned (OpenSpec.upto datingRetractsSpec)

/-- 'putloglaw22.DatingBlames', WHERE WHAT IT READS IS OF BULK AT MOST 1048576: true; the input reads as it did. -/
def datingBlamesUptoRow : OpenClaim := { program := "ythfgccfaildmfaagreatdoor", sum := "ee757fa0ada6d5b2273585a029c5d20774afb9c0c72e1e1bed5812deb785abc6", func := "putlog/putloglaw22.DatingBlames", spec := "datingBlames", unfollowed := true, recurses := true, named := ["putlog/calendar.lengths", "putlog/calendar.feasts"], apart := false, laid := [("putlog/calendar.lengths", laid_putlog_calendar_lengths)], narrowed := true }
def DatingBlamesUptoSaid : Prop := datingBlamesUptoRow.holds Tryz.pinned (OpenSpec.upto datingBlamesSpec)

end Rows
end Go.Proofs.YthfgccfaildmfaaGreatDoor
