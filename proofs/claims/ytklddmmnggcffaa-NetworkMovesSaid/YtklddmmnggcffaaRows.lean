/-
  No cell of these rows narrows 'for every input' (looked for: loops, veiled, ifaces, maps, wideKeys, modest, calm, conditions, laid).
  DERIVED. THE GIVEN ROWS OF THIS SEAT. 5 by the template 'for every input the law returns true; each argument reads behind the call as it read before'; 0 by the template 'total and deterministic' (their statements: YtklddmmnggcffaaTotals.lean).
  GIVEN WITH THE SEED: the statements are not yours to turn. If you find one false, say at which input.
  Laid BY PROGRAM, IN A SANDBOX (cutbox-rows.mjs): the forced cells as the released guide's own fill.sh prints them over the translation 7b59c0d229b855f7… (all of the seat's roots in one cut). By AI agents, Wed Nov 11 2026. No macro, syntax, notation, axiom, sorry.
-/
import Derived.Test.YtklddmmnggcffaaChecked
import GoSem.Claim
import GoSem.ClaimJoined
import GoSem.ClaimMapViews
import Derived.JoinedTies
import Derived.KernelRfl
namespace Go.Proofs.Ytklddmmnggcffaa
/- THE CELL 'sum', in the pinned program and in every row, IS THE sha256 OF THE DUMP (.gsa) THAT YtklddmmnggcffaaProg.lean LOADS. Nothing in Lean hashes anything: it is a label: what it is worth is what the hold of that sum in a sandbox is worth. -/
noncomputable def Try.pinned : Pinned := { name := "ytklddmmnggcffaa", sum := "7b59c0d229b855f7825af62af1e44e95878b1fd5686bd4c706fab50ebd07aeaf", checked := Try.checked }
namespace Rows
def none {H : Type} : Left H := { results := [], args := [] }

/-- 'putloglaw10.NetworkExact': WHATEVER THE INPUT: true; the input reads as it did. -/
def networkExactSpec : ChangeSpec := { name := "networkExact", fn := fun _ => fun
  | [d1, d2, d3, d4, d5] => { results := [.lit (.bool true)], args := [d1, d2, d3, d4, d5] }
  | _ => none }
def networkExactRow : OpenClaim := { program := "ytklddmmnggcffaa", sum := "7b59c0d229b855f7825af62af1e44e95878b1fd5686bd4c706fab50ebd07aeaf", func := "putlog/putloglaw10.NetworkExact", spec := "networkExact", unfollowed := true, recurses := true, apart := false }
def NetworkExactSaid : Prop := networkExactRow.holds Try.pinned (OpenSpec.ofChange networkExactSpec)

/-- ITS FALSE NEIGHBOUR: 'it returns false'. Refute it at one input. -/
def networkExactWrong : ChangeSpec := { name := "networkExact", fn := fun _ => fun
  | [d1, d2, d3, d4, d5] => { results := [.lit (.bool false)], args := [d1, d2, d3, d4, d5] }
  | _ => none }
def NetworkExactWrongFalsely : Prop := networkExactRow.holds Try.pinned (OpenSpec.ofChange networkExactWrong)

/-- 'putloglaw10.NetworkSound': WHATEVER THE INPUT: true; the input reads as it did. -/
def networkSoundSpec : ChangeSpec := { name := "networkSound", fn := fun _ => fun
  | [d1, d2, d3, d4] => { results := [.lit (.bool true)], args := [d1, d2, d3, d4] }
  | _ => none }
def networkSoundRow : OpenClaim := { program := "ytklddmmnggcffaa", sum := "7b59c0d229b855f7825af62af1e44e95878b1fd5686bd4c706fab50ebd07aeaf", func := "putlog/putloglaw10.NetworkSound", spec := "networkSound", unfollowed := true, recurses := true, apart := false }
def NetworkSoundSaid : Prop := networkSoundRow.holds Try.pinned (OpenSpec.ofChange networkSoundSpec)

/-- ITS FALSE NEIGHBOUR: 'it returns false'. Refute it at one input. -/
def networkSoundWrong : ChangeSpec := { name := "networkSound", fn := fun _ => fun
  | [d1, d2, d3, d4] => { results := [.lit (.bool false)], args := [d1, d2, d3, d4] }
  | _ => none }
def NetworkSoundWrongFalsely : Prop := networkSoundRow.holds Try.pinned (OpenSpec.ofChange networkSoundWrong)

/-- 'putloglaw10.NetworkMoves': WHATEVER THE INPUT: true; the input reads as it did. -/
def networkMovesSpec : ChangeSpec := { name := "networkMoves", fn := fun _ => fun
  | [d1, d2, d3, d4, d5, d6] => { results := [.lit (.bool true)], args := [d1, d2, d3, d4, d5, d6] }
  | _ => none }
def networkMovesRow : OpenClaim := { program := "ytklddmmnggcffaa", sum := "7b59c0d229b855f7825af62af1e44e95878b1fd5686bd4c706fab50ebd07aeaf", func := "putlog/putloglaw10.NetworkMoves", spec := "networkMoves", unfollowed := true, recurses := true, apart := false }
def NetworkMovesSaid : Prop := networkMovesRow.holds Try.pinned (OpenSpec.ofChange networkMovesSpec)

/-- ITS FALSE NEIGHBOUR: 'it returns false'. Refute it at one input. -/
def networkMovesWrong : ChangeSpec := { name := "networkMoves", fn := fun _ => fun
  | [d1, d2, d3, d4, d5, d6] => { results := [.lit (.bool false)], args := [d1, d2, d3, d4, d5, d6] }
  | _ => none }
def NetworkMovesWrongFalsely : Prop := networkMovesRow.holds Try.pinned (OpenSpec.ofChange networkMovesWrong)

/-- 'putloglaw10.NetworkApart': WHATEVER THE INPUT: true; the input reads as it did. -/
def networkApartSpec : ChangeSpec := { name := "networkApart", fn := fun _ => fun
  | [d1, d2, d3, d4] => { results := [.lit (.bool true)], args := [d1, d2, d3, d4] }
  | _ => none }
def networkApartRow : OpenClaim := { program := "ytklddmmnggcffaa", sum := "7b59c0d229b855f7825af62af1e44e95878b1fd5686bd4c706fab50ebd07aeaf", func := "putlog/putloglaw10.NetworkApart", spec := "networkApart", unfollowed := true, recurses := true, apart := false }
def NetworkApartSaid : Prop := networkApartRow.holds Try.pinned (OpenSpec.ofChange networkApartSpec)

/-- ITS FALSE NEIGHBOUR: 'it returns false'. Refute it at one input. -/
def networkApartWrong : ChangeSpec := { name := "networkApart", fn := fun _ => fun
  | [d1, d2, d3, d4] => { results := [.lit (.bool false)], args := [d1, d2, d3, d4] }
  | _ => none }
def NetworkApartWrongFalsely : Prop := networkApartRow.holds Try.pinned (OpenSpec.ofChange networkApartWrong)

/-- 'putloglaw10.NetworkBlames': WHATEVER THE INPUT: true; the input reads as it did. -/
def networkBlamesSpec : ChangeSpec := { name := "networkBlames", fn := fun _ => fun
  | [d1, d2] => { results := [.lit (.bool true)], args := [d1, d2] }
  | _ => none }
def networkBlamesRow : OpenClaim := { program := "ytklddmmnggcffaa", sum := "7b59c0d229b855f7825af62af1e44e95878b1fd5686bd4c706fab50ebd07aeaf", func := "putlog/putloglaw10.NetworkBlames", spec := "networkBlames", unfollowed := true, recurses := true, apart := false }
def NetworkBlamesSaid : Prop := networkBlamesRow.holds Try.pinned (OpenSpec.ofChange networkBlamesSpec)

/-- ITS FALSE NEIGHBOUR: 'it returns false'. Refute it at one input. -/
def networkBlamesWrong : ChangeSpec := { name := "networkBlames", fn := fun _ => fun
  | [d1, d2] => { results := [.lit (.bool false)], args := [d1, d2] }
  | _ => none }
def NetworkBlamesWrongFalsely : Prop := networkBlamesRow.holds Try.pinned (OpenSpec.ofChange networkBlamesWrong)

/- THE SECOND FORM. 'bulk': how many values and letters a reading holds, each counted each time it is reached (what is shared counts as often as it is met; a slice's spare places count too). A statement '..UptoSaid' is the law's where the arguments, and the package variables that the reading takes, are together of bulk at most 1048576: NARROWER than '..Said'. Prove '..Said' where nothing that the law and all that it calls make is longer than what came in: it says more and counts as full. Else prove '..UptoSaid'. A law counts once. -/
mutual
def uptoBulk {H : Type} : DataW H → Nat
  | .lit (.string bytes) => bytes.length + 1
  | .lit _ => 1
  | .nil => 1
  | .ptr d => uptoBulk d + 1
  | .slice elems spare => uptoBulkAll elems + uptoBulkAll spare + 1
  | .agg parts => uptoBulkAll parts + 1
  | .iface _ d => uptoBulk d + 1
  | .map entries => uptoBulkEntries entries + 1
  | .held _ => 1
def uptoBulkAll {H : Type} : List (DataW H) → Nat
  | [] => 0
  | d :: r => uptoBulk d + uptoBulkAll r
def uptoBulkEntries {H : Type} : List (Lit × DataW H) → Nat
  | [] => 0
  | x :: r => uptoBulkEntry x + uptoBulkEntries r
def uptoBulkEntry {H : Type} : Lit × DataW H → Nat
  | (.string bytes, d) => bytes.length + uptoBulk d + 1
  | (_, d) => uptoBulk d + 1
 end
def uptoSmall : (H : Type) → List (DataW H) → Bool := fun _ ds => decide (uptoBulkAll ds ≤ 1048576)
def OpenSpec.upto (s : _root_.Go.ChangeSpec) : _root_.Go.OpenSpec := { _root_.Go.OpenSpec.ofChange s with cond := some uptoSmall }

/-- 'putloglaw10.NetworkExact', WHERE WHAT IT READS IS OF BULK AT MOST 1048576: true; the input reads as it did. -/
def networkExactUptoRow : OpenClaim := { program := "ytklddmmnggcffaa", sum := "7b59c0d229b855f7825af62af1e44e95878b1fd5686bd4c706fab50ebd07aeaf", func := "putlog/putloglaw10.NetworkExact", spec := "networkExact", unfollowed := true, recurses := true, apart := false, narrowed := true }
def NetworkExactUptoSaid : Prop := networkExactUptoRow.holds Try.pinned (OpenSpec.upto networkExactSpec)

/-- 'putloglaw10.NetworkSound', WHERE WHAT IT READS IS OF BULK AT MOST 1048576: true; the input reads as it did. -/
def networkSoundUptoRow : OpenClaim := { program := "ytklddmmnggcffaa", sum := "7b59c0d229b855f7825af62af1e44e95878b1fd5686bd4c706fab50ebd07aeaf", func := "putlog/putloglaw10.NetworkSound", spec := "networkSound", unfollowed := true, recurses := true, apart := false, narrowed := true }
def NetworkSoundUptoSaid : Prop := networkSoundUptoRow.holds Try.pinned (OpenSpec.upto networkSoundSpec)

/-- 'putloglaw10.NetworkMoves', WHERE WHAT IT READS IS OF BULK AT MOST 1048576: true; the input reads as it did. -/
def networkMovesUptoRow : OpenClaim := { program := "ytklddmmnggcffaa", sum := "7b59c0d229b855f7825af62af1e44e95878b1fd5686bd4c706fab50ebd07aeaf", func := "putlog/putloglaw10.NetworkMoves", spec := "networkMoves", unfollowed := true, recurses := true, apart := false, narrowed := true }
def NetworkMovesUptoSaid : Prop := networkMovesUptoRow.holds Try.pinned (OpenSpec.upto networkMovesSpec)

/-- 'putloglaw10.NetworkApart', WHERE WHAT IT READS IS OF BULK AT MOST 1048576: true; the input reads as it did. -/
def networkApartUptoRow : OpenClaim := { program := "ytklddmmnggcffaa", sum := "7b59c0d229b855f7825af62af1e44e95878b1fd5686bd4c706fab50ebd07aeaf", func := "putlog/putloglaw10.NetworkApart", spec := "networkApart", unfollowed := true, recurses := true, apart := false, narrowed := true }
def NetworkApartUptoSaid : Prop := networkApartUptoRow.holds Try.pinned (OpenSpec.upto networkApartSpec)

/-- 'putloglaw10.NetworkBlames', WHERE WHAT IT READS IS OF BULK AT MOST 1048576: true; the input reads as it did. -/
def networkBlamesUptoRow : OpenClaim := { program := "ytklddmmnggcffaa", sum := "7b59c0d229b855f7825af62af1e44e95878b1fd5686bd4c706fab50ebd07aeaf", func := "putlog/putloglaw10.NetworkBlames", spec := "networkBlames", unfollowed := true, recurses := true, apart := false, narrowed := true }
def NetworkBlamesUptoSaid : Prop := networkBlamesUptoRow.holds Try.pinned (OpenSpec.upto networkBlamesSpec)

end Rows
end Go.Proofs.Ytklddmmnggcffaa
