/-
  No cell of these rows narrows 'for every input' (looked for: loops, veiled, ifaces, maps, wideKeys, modest, calm, conditions, laid).
  DERIVED. THE GIVEN ROWS OF THIS SEAT. 7 by the template 'for every input the law returns true; each argument reads behind the call as it read before'; 0 by the template 'total and deterministic' (their statements: YtadcohacnmicjaaTotals.lean).
  GIVEN WITH THE SEED: the statements are not yours to turn. If you find one false, say at which input.
  Laid BY PROGRAM, IN A SANDBOX (cutbox-rows.mjs): the forced cells as the released guide's own fill.sh prints them over the translation 6f18fb7a405726fb… (all of the seat's roots in one cut). By AI agents, Wed Nov 11 2026. No macro, syntax, notation, axiom, sorry.
-/
import Derived.Test.YtadcohacnmicjaaChecked
import GoSem.Claim
import GoSem.ClaimJoined
import GoSem.ClaimMapViews
import Derived.JoinedTies
import Derived.KernelRfl
namespace Go.Proofs.Ytadcohacnmicjaa
/- THE CELL 'sum', in the pinned program and in every row, IS THE sha256 OF THE DUMP (.gsa) THAT YtadcohacnmicjaaProg.lean LOADS. Nothing in Lean hashes anything: it is a label: what it is worth is what the hold of that sum in a sandbox is worth. -/
noncomputable def Try.pinned : Pinned := { name := "ytadcohacnmicjaa", sum := "6f18fb7a405726fbc22034134ba9d7fdbd465aba90d8448c9c73cb51464e5030", checked := Try.checked }
namespace Rows
def none {H : Type} : Left H := { results := [], args := [] }

/-- 'putloglaw09.BetweenMatchesReference': WHATEVER THE INPUT: true; the input reads as it did. -/
def betweenMatchesReferenceSpec : ChangeSpec := { name := "betweenMatchesReference", fn := fun _ => fun
  | [d1, d2, d3, d4, d5, d6, d7] => { results := [.lit (.bool true)], args := [d1, d2, d3, d4, d5, d6, d7] }
  | _ => none }
def betweenMatchesReferenceRow : OpenClaim := { program := "ytadcohacnmicjaa", sum := "6f18fb7a405726fbc22034134ba9d7fdbd465aba90d8448c9c73cb51464e5030", func := "putlog/putloglaw09.BetweenMatchesReference", spec := "betweenMatchesReference", unfollowed := true, recurses := true, apart := false }
def BetweenMatchesReferenceSaid : Prop := betweenMatchesReferenceRow.holds Try.pinned (OpenSpec.ofChange betweenMatchesReferenceSpec)

/-- ITS FALSE NEIGHBOUR: 'it returns false'. Refute it at one input. -/
def betweenMatchesReferenceWrong : ChangeSpec := { name := "betweenMatchesReference", fn := fun _ => fun
  | [d1, d2, d3, d4, d5, d6, d7] => { results := [.lit (.bool false)], args := [d1, d2, d3, d4, d5, d6, d7] }
  | _ => none }
def BetweenMatchesReferenceWrongFalsely : Prop := betweenMatchesReferenceRow.holds Try.pinned (OpenSpec.ofChange betweenMatchesReferenceWrong)

/-- 'putloglaw09.BetweenLeast': WHATEVER THE INPUT: true; the input reads as it did. -/
def betweenLeastSpec : ChangeSpec := { name := "betweenLeast", fn := fun _ => fun
  | [d1, d2] => { results := [.lit (.bool true)], args := [d1, d2] }
  | _ => none }
def betweenLeastRow : OpenClaim := { program := "ytadcohacnmicjaa", sum := "6f18fb7a405726fbc22034134ba9d7fdbd465aba90d8448c9c73cb51464e5030", func := "putlog/putloglaw09.BetweenLeast", spec := "betweenLeast", unfollowed := true, recurses := true, apart := false }
def BetweenLeastSaid : Prop := betweenLeastRow.holds Try.pinned (OpenSpec.ofChange betweenLeastSpec)

/-- ITS FALSE NEIGHBOUR: 'it returns false'. Refute it at one input. -/
def betweenLeastWrong : ChangeSpec := { name := "betweenLeast", fn := fun _ => fun
  | [d1, d2] => { results := [.lit (.bool false)], args := [d1, d2] }
  | _ => none }
def BetweenLeastWrongFalsely : Prop := betweenLeastRow.holds Try.pinned (OpenSpec.ofChange betweenLeastWrong)

/-- 'putloglaw09.BetweenContradicts': WHATEVER THE INPUT: true; the input reads as it did. -/
def betweenContradictsSpec : ChangeSpec := { name := "betweenContradicts", fn := fun _ => fun
  | [d1, d2, d3, d4] => { results := [.lit (.bool true)], args := [d1, d2, d3, d4] }
  | _ => none }
def betweenContradictsRow : OpenClaim := { program := "ytadcohacnmicjaa", sum := "6f18fb7a405726fbc22034134ba9d7fdbd465aba90d8448c9c73cb51464e5030", func := "putlog/putloglaw09.BetweenContradicts", spec := "betweenContradicts", unfollowed := true, recurses := true, apart := false }
def BetweenContradictsSaid : Prop := betweenContradictsRow.holds Try.pinned (OpenSpec.ofChange betweenContradictsSpec)

/-- ITS FALSE NEIGHBOUR: 'it returns false'. Refute it at one input. -/
def betweenContradictsWrong : ChangeSpec := { name := "betweenContradicts", fn := fun _ => fun
  | [d1, d2, d3, d4] => { results := [.lit (.bool false)], args := [d1, d2, d3, d4] }
  | _ => none }
def BetweenContradictsWrongFalsely : Prop := betweenContradictsRow.holds Try.pinned (OpenSpec.ofChange betweenContradictsWrong)

/-- 'putloglaw09.BetweenImplies': WHATEVER THE INPUT: true; the input reads as it did. -/
def betweenImpliesSpec : ChangeSpec := { name := "betweenImplies", fn := fun _ => fun
  | [d1, d2, d3] => { results := [.lit (.bool true)], args := [d1, d2, d3] }
  | _ => none }
def betweenImpliesRow : OpenClaim := { program := "ytadcohacnmicjaa", sum := "6f18fb7a405726fbc22034134ba9d7fdbd465aba90d8448c9c73cb51464e5030", func := "putlog/putloglaw09.BetweenImplies", spec := "betweenImplies", unfollowed := true, recurses := true, apart := false }
def BetweenImpliesSaid : Prop := betweenImpliesRow.holds Try.pinned (OpenSpec.ofChange betweenImpliesSpec)

/-- ITS FALSE NEIGHBOUR: 'it returns false'. Refute it at one input. -/
def betweenImpliesWrong : ChangeSpec := { name := "betweenImplies", fn := fun _ => fun
  | [d1, d2, d3] => { results := [.lit (.bool false)], args := [d1, d2, d3] }
  | _ => none }
def BetweenImpliesWrongFalsely : Prop := betweenImpliesRow.holds Try.pinned (OpenSpec.ofChange betweenImpliesWrong)

/-- 'putloglaw09.BetweenSolves': WHATEVER THE INPUT: true; the input reads as it did. -/
def betweenSolvesSpec : ChangeSpec := { name := "betweenSolves", fn := fun _ => fun
  | [d1, d2] => { results := [.lit (.bool true)], args := [d1, d2] }
  | _ => none }
def betweenSolvesRow : OpenClaim := { program := "ytadcohacnmicjaa", sum := "6f18fb7a405726fbc22034134ba9d7fdbd465aba90d8448c9c73cb51464e5030", func := "putlog/putloglaw09.BetweenSolves", spec := "betweenSolves", unfollowed := true, recurses := true, apart := false }
def BetweenSolvesSaid : Prop := betweenSolvesRow.holds Try.pinned (OpenSpec.ofChange betweenSolvesSpec)

/-- ITS FALSE NEIGHBOUR: 'it returns false'. Refute it at one input. -/
def betweenSolvesWrong : ChangeSpec := { name := "betweenSolves", fn := fun _ => fun
  | [d1, d2] => { results := [.lit (.bool false)], args := [d1, d2] }
  | _ => none }
def BetweenSolvesWrongFalsely : Prop := betweenSolvesRow.holds Try.pinned (OpenSpec.ofChange betweenSolvesWrong)

/-- 'putloglaw09.BetweenMore': WHATEVER THE INPUT: true; the input reads as it did. -/
def betweenMoreSpec : ChangeSpec := { name := "betweenMore", fn := fun _ => fun
  | [d1, d2] => { results := [.lit (.bool true)], args := [d1, d2] }
  | _ => none }
def betweenMoreRow : OpenClaim := { program := "ytadcohacnmicjaa", sum := "6f18fb7a405726fbc22034134ba9d7fdbd465aba90d8448c9c73cb51464e5030", func := "putlog/putloglaw09.BetweenMore", spec := "betweenMore", unfollowed := true, recurses := true, apart := false }
def BetweenMoreSaid : Prop := betweenMoreRow.holds Try.pinned (OpenSpec.ofChange betweenMoreSpec)

/-- ITS FALSE NEIGHBOUR: 'it returns false'. Refute it at one input. -/
def betweenMoreWrong : ChangeSpec := { name := "betweenMore", fn := fun _ => fun
  | [d1, d2] => { results := [.lit (.bool false)], args := [d1, d2] }
  | _ => none }
def BetweenMoreWrongFalsely : Prop := betweenMoreRow.holds Try.pinned (OpenSpec.ofChange betweenMoreWrong)

/-- 'putloglaw09.BetweenMirrors': WHATEVER THE INPUT: true; the input reads as it did. -/
def betweenMirrorsSpec : ChangeSpec := { name := "betweenMirrors", fn := fun _ => fun
  | [d1, d2, d3] => { results := [.lit (.bool true)], args := [d1, d2, d3] }
  | _ => none }
def betweenMirrorsRow : OpenClaim := { program := "ytadcohacnmicjaa", sum := "6f18fb7a405726fbc22034134ba9d7fdbd465aba90d8448c9c73cb51464e5030", func := "putlog/putloglaw09.BetweenMirrors", spec := "betweenMirrors", unfollowed := true, recurses := true, apart := false }
def BetweenMirrorsSaid : Prop := betweenMirrorsRow.holds Try.pinned (OpenSpec.ofChange betweenMirrorsSpec)

/-- ITS FALSE NEIGHBOUR: 'it returns false'. Refute it at one input. -/
def betweenMirrorsWrong : ChangeSpec := { name := "betweenMirrors", fn := fun _ => fun
  | [d1, d2, d3] => { results := [.lit (.bool false)], args := [d1, d2, d3] }
  | _ => none }
def BetweenMirrorsWrongFalsely : Prop := betweenMirrorsRow.holds Try.pinned (OpenSpec.ofChange betweenMirrorsWrong)

/- THE SECOND FORM. 'bulk': how many values and letters a reading holds, each counted each time it is reached (what is shared counts as often as it is met; a slice's spare places count too). A statement '..UptoSaid' is the law's where the arguments, and the package variables that the reading takes, are together of bulk at most 1048576: NARROWER than '..Said'. Prove '..Said' where nothing that the law and all that it calls make is longer than what came in: it says more and counts as full. Else prove '..UptoSaid'. A law counts once. -/
mutual
def uptoBulk {H : Type} : DataW H → Nat
  | .lit (.string bytes) => bytes.length + 1
  | .lit _ => 1
  | .nil => 1
  | .ptr d => uptoBulk d + 1
  | .slice elems spare => uptoBulkAll elems + uptoBulkAll spare + 1
  | .agg parts => uptoBulkAll parts + 1
  | .iface _ d => uptoBulk d + 1
  | .map entries => uptoBulkEntries entries + 1
  | .held _ => 1
def uptoBulkAll {H : Type} : List (DataW H) → Nat
  | [] => 0
  | d :: r => uptoBulk d + uptoBulkAll r
def uptoBulkEntries {H : Type} : List (Lit × DataW H) → Nat
  | [] => 0
  | x :: r => uptoBulkEntry x + uptoBulkEntries r
def uptoBulkEntry {H : Type} : Lit × DataW H → Nat
  | (.string bytes, d) => bytes.length + uptoBulk d + 1
  | (_, d) => uptoBulk d + 1
 end
def uptoSmall : (H : Type) → List (DataW H) → Bool := fun _ ds => decide (uptoBulkAll ds ≤ 1048576)
def OpenSpec.upto (s : _root_.Go.ChangeSpec) : _root_.Go.OpenSpec := { _root_.Go.OpenSpec.ofChange s with cond := some uptoSmall }

/-- 'putloglaw09.BetweenMatchesReference', WHERE WHAT IT READS IS OF BULK AT MOST 1048576: true; the input reads as it did. -/
def betweenMatchesReferenceUptoRow : OpenClaim := { program := "ytadcohacnmicjaa", sum := "6f18fb7a405726fbc22034134ba9d7fdbd465aba90d8448c9c73cb51464e5030", func := "putlog/putloglaw09.BetweenMatchesReference", spec := "betweenMatchesReference", unfollowed := true, recurses := true, apart := false, narrowed := true }
def BetweenMatchesReferenceUptoSaid : Prop := betweenMatchesReferenceUptoRow.holds Try.pinned (OpenSpec.upto betweenMatchesReferenceSpec)

/-- 'putloglaw09.BetweenLeast', WHERE WHAT IT READS IS OF BULK AT MOST 1048576: true; the input reads as it did. -/
def betweenLeastUptoRow : OpenClaim := { program := "ytadcohacnmicjaa", sum := "6f18fb7a405726fbc22034134ba9d7fdbd465aba90d8448c9c73cb51464e5030", func := "putlog/putloglaw09.BetweenLeast", spec := "betweenLeast", unfollowed := true, recurses := true, apart := false, narrowed := true }
def BetweenLeastUptoSaid : Prop := betweenLeastUptoRow.holds Try.pinned (OpenSpec.upto betweenLeastSpec)

/-- 'putloglaw09.BetweenContradicts', WHERE WHAT IT READS IS OF BULK AT MOST 1048576: true; the input reads as it did. -/
def betweenContradictsUptoRow : OpenClaim := { program := "ytadcohacnmicjaa", sum := "6f18fb7a405726fbc22034134ba9d7fdbd465aba90d8448c9c73cb51464e5030", func := "putlog/putloglaw09.BetweenContradicts", spec := "betweenContradicts", unfollowed := true, recurses := true, apart := false, narrowed := true }
def BetweenContradictsUptoSaid : Prop := betweenContradictsUptoRow.holds Try.pinned (OpenSpec.upto betweenContradictsSpec)

/-- 'putloglaw09.BetweenImplies', WHERE WHAT IT READS IS OF BULK AT MOST 1048576: true; the input reads as it did. -/
def betweenImpliesUptoRow : OpenClaim := { program := "ytadcohacnmicjaa", sum := "6f18fb7a405726fbc22034134ba9d7fdbd465aba90d8448c9c73cb51464e5030", func := "putlog/putloglaw09.BetweenImplies", spec := "betweenImplies", unfollowed := true, recurses := true, apart := false, narrowed := true }
def BetweenImpliesUptoSaid : Prop := betweenImpliesUptoRow.holds Try.pinned (OpenSpec.upto betweenImpliesSpec)

/-- 'putloglaw09.BetweenSolves', WHERE WHAT IT READS IS OF BULK AT MOST 1048576: true; the input reads as it did. -/
def betweenSolvesUptoRow : OpenClaim := { program := "ytadcohacnmicjaa", sum := "6f18fb7a405726fbc22034134ba9d7fdbd465aba90d8448c9c73cb51464e5030", func := "putlog/putloglaw09.BetweenSolves", spec := "betweenSolves", unfollowed := true, recurses := true, apart := false, narrowed := true }
def BetweenSolvesUptoSaid : Prop := betweenSolvesUptoRow.holds Try.pinned (OpenSpec.upto betweenSolvesSpec)

/-- 'putloglaw09.BetweenMore', WHERE WHAT IT READS IS OF BULK AT MOST 1048576: true; the input reads as it did. -/
def betweenMoreUptoRow : OpenClaim := { program := "ytadcohacnmicjaa", sum := "6f18fb7a405726fbc22034134ba9d7fdbd465aba90d8448c9c73cb51464e5030", func := "putlog/putloglaw09.BetweenMore", spec := "betweenMore", unfollowed := true, recurses := true, apart := false, narrowed := true }
def BetweenMoreUptoSaid : Prop := betweenMoreUptoRow.holds Try.pinned (OpenSpec.upto betweenMoreSpec)

/-- 'putloglaw09.BetweenMirrors', WHERE WHAT IT READS IS OF BULK AT MOST 1048576: true; the input reads as it did. -/
def betweenMirrorsUptoRow : OpenClaim := { program := "ytadcohacnmicjaa", sum := "6f18fb7a405726fbc22034134ba9d7fdbd465aba90d8448c9c73cb51464e5030", func := "putlog/putloglaw09.BetweenMirrors", spec := "betweenMirrors", unfollowed := true, recurses := true, apart := false, narrowed := true }
def BetweenMirrorsUptoSaid : Prop := betweenMirrorsUptoRow.holds Try.pinned (OpenSpec.upto betweenMirrorsSpec)

end Rows
end Go.Proofs.Ytadcohacnmicjaa
