/-
 The law 'ArchiveMatchesReference' holds for every input; its card is closed.
 Conditions: none beyond the card's own.
-/
import Derived.Test.YtdnabfadigkjgaaGreatDoorTie
import Derived.Test.YtdnabfadigkjgaaGreatDoorCards
import Derived.Test.YtdnabfadigkjgaaGreatDoorZ5
import Derived.Test.YtdnabfadigkjgaaGreatDoorZ7
import Derived.SevenTiedAt
import Derived.Clock
set_option linter.all false
namespace Go.Proofs.YtdnabfadigkjgaaGreatDoor.archiveMatchesReference
open Go Go.Abs Go.PE Go.RowKit Go.ChangeShapes Go.WideShapes Go.ChangeAt Go.WideMaps Go.WideElems Go.Proofs
set_option maxRecDepth 100000
set_option linter.unusedVariables false
theorem lifted (os:Os) (started:os.Started) (H:Type) (enc:TypeId×Value→H) :
  ReturnsInHanded {} Tryz.checked os 3 .any (fun w args=>(Rows.archiveMatchesReferenceSpec.pre enc Tryz.prog Tryz.f3 [] false w args∧laidMetH Tryz.prog Rows.archiveMatchesReferenceRow.laid w)∧sizedMet enc Tryz.prog Tryz.f3 (OpenSpec.ofChange Rows.archiveMatchesReferenceSpec) false w args) (Rows.archiveMatchesReferenceSpec.post enc Tryz.prog Tryz.f3 false true false false):=by
 refine returnsInHanded_of_change_and (C:=Tryz.checked) (X:=fun w _=>laidMetH Tryz.prog Rows.archiveMatchesReferenceRow.laid w) (fun _ _ _ hh h=>h.of_heap hh) own started (by kernel_rfl) Tryz.func3
  (ChangeSpec.witness_shaped (enc:=enc) (C:=Tryz.checked) (os:=os) (X:=fun w _=>laidMetH Tryz.prog Rows.archiveMatchesReferenceRow.laid w) false (World.doorLaid Tryz.prog 400 os) #[.slice none 0 0,.int .i64 0,.int .i64 0,.agg #[.int .i64 0,.int .i64 0,.int .i64 0],.agg #[.int .i64 0,.int .i64 0,.int .i64 0],.slice none 0 0,.agg #[.int .i64 0,.int .i64 0,.int .i64 0,.int .i64 0,.int .i64 0,.int .i64 0,.int .i64 0,.string ⟨#[]⟩,.string ⟨#[]⟩],.string ⟨#[]⟩,.int .i64 0,.int .i64 0,.int .u8 0,.string ⟨#[]⟩] 8 rfl (World.shaped_of_RefB (by kernel_rfl) (by kernel_rfl)) (by kernel_rfl) (by kernel_rfl) (by kernel_rfl) (door_met os _)) ?_
 intro W base args ds gs before hval hW _ _ hL _
 exact law_contract laidOut c3 rfl tys3 rfl Tryz.underlying4 rfl (fun H ds h=>by
  match ds,h with
  | [d0,d1,d2,d3,d4,d5,d6,d7,d8,d9,d10,d11],_=>exact ⟨rfl,rfl,rfl⟩) law3 (globs_ok hL) hval hW
theorem over:Rows.ArchiveMatchesReferenceSaid :=
 OpenClaim.holds_of_wide 3 Tryz.f3 rfl rfl rfl rfl rfl rfl rfl ⟨rfl,rfl,rfl,rfl,rfl⟩ rfl rfl rfl rfl rfl (by kernel_rfl) Tryz.func3 (by kernel_rfl)
  (oD (by kernel_rfl)) (by unfold Func.isWrapper;first | (rw [if_pos (by decide +kernel)];kernel_rfl) | (rw [if_neg (by decide +kernel)];exact ⟨rfl,rfl⟩))
  (fun os started H enc _=>lifted os started H enc)
theorem proved:Rows.ArchiveMatchesReferenceCardSaid :=
 Claim7.holds_tied_plain_at .later [] [.data] true (true,"0ca27b150bdc3ce4371c13b8ae815e7f4808c8afd11be6d6622ecd1a1db57973") true over (fun _ h=>by cases h) (by kernel_rfl) (fun _ h=>by cases h) archiveMatchesReference_row_tie rfl ⟨rfl,rfl⟩ (by kernel_rfl) rfl
  (fun f fn hf hfn=>by
   obtain rfl:f=3:=Option.some.inj ((show Tryz.prog.funcNamed "putlog/putloglaw39.ArchiveMatchesReference"=some 3 by kernel_rfl).symm.trans hf) |>.symm
   obtain rfl:fn=Tryz.f3:=(Option.some.inj (Tryz.func3.symm.trans hfn)).symm
   exact ⟨by kernel_rfl,fun j t ht=>by
    have hm:t∈Tryz.f3.params:=Array.mem_of_getElem? ht
    have hall:(Tryz.f3.params.toList.all fun u=>!Tryz.pinned.checked.prog.wantsStandIn u)=true:=by kernel_rfl
    have:=List.all_eq_true.1 hall t (by simpa using hm)
    simpa using this⟩)
  (by kernel_rfl)
#print axioms proved
end Go.Proofs.YtdnabfadigkjgaaGreatDoor.archiveMatchesReference
