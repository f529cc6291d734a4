/-
 The law 'JournalMatchesReference' holds for every input; its card is closed.
 Conditions: none beyond the card's own.
-/
import Derived.Test.YtobfnefajpiakaaGreatDoorTie
import Derived.Test.YtobfnefajpiakaaGreatDoorCards
import Derived.Test.YtobfnefajpiakaaGreatDoorZ6
import Derived.Test.YtobfnefajpiakaaGreatDoorZ8
import Derived.SevenTiedAt
import Derived.Clock
set_option linter.all false
namespace Go.Proofs.YtobfnefajpiakaaGreatDoor.journalMatchesReference
open Go Go.Abs Go.PE Go.RowKit Go.ChangeShapes Go.WideShapes Go.ChangeAt Go.WideMaps Go.WideElems Go.Proofs
set_option maxRecDepth 100000
set_option linter.unusedVariables false
theorem lifted (os:Os) (started:os.Started) (H:Type) (enc:TypeId×Value→H) :
  ReturnsInHanded {} Tryz.checked os 7 .any (fun w args=>(Rows.journalMatchesReferenceSpec.pre enc Tryz.prog Tryz.f7 [] false w args∧laidMetH Tryz.prog Rows.journalMatchesReferenceRow.laid w)∧sizedMet enc Tryz.prog Tryz.f7 (OpenSpec.ofChange Rows.journalMatchesReferenceSpec) false w args) (Rows.journalMatchesReferenceSpec.post enc Tryz.prog Tryz.f7 false true false false):=by
 refine returnsInHanded_of_change_and (C:=Tryz.checked) (X:=fun w _=>laidMetH Tryz.prog Rows.journalMatchesReferenceRow.laid w) (fun _ _ _ hh h=>h.of_heap hh) own started (by kernel_rfl) Tryz.func7
  (ChangeSpec.witness_shaped (enc:=enc) (C:=Tryz.checked) (os:=os) (X:=fun w _=>laidMetH Tryz.prog Rows.journalMatchesReferenceRow.laid w) false (World.laidAll Tryz.prog os Rows.journalOpensAnythingRow.laid) #[.int .i64 0,.slice none 0 0] 8 (World.laidAll_os _ _ _) (World.shaped_of_ZipB (by kernel_rfl) (by kernel_rfl)) (by kernel_rfl) (by kernel_rfl) (by kernel_rfl) (door_met os _)) ?_
 intro W base args ds gs before hval hW _ _ hL _
 obtain ⟨ea,herr⟩:=errs_ok hL
 exact law_contract laidOut c7 rfl tys7 rfl Tryz.underlying4 rfl (fun H ds h=>by
  match ds,h with
  | [d0,d1],_=>exact ⟨rfl,rfl,rfl⟩) law7 (globs_ok hL) herr hval hW
theorem over:Rows.JournalMatchesReferenceSaid :=
 OpenClaim.holds_of_wide 7 Tryz.f7 rfl rfl rfl rfl rfl rfl rfl ⟨rfl,rfl,rfl,rfl,rfl⟩ rfl rfl rfl rfl rfl (by kernel_rfl) Tryz.func7 (by kernel_rfl)
  (oD (by kernel_rfl)) (by unfold Func.isWrapper;first | (rw [if_pos (by decide +kernel)];kernel_rfl) | (rw [if_neg (by decide +kernel)];exact ⟨rfl,rfl⟩))
  (fun os started H enc _=>lifted os started H enc)
theorem proved:Rows.JournalMatchesReferenceCardSaid :=
 Claim7.holds_tied_plain_at .later [] [.data,.data,.sentinel,.pinned] true (true,"62addf912a8c940089cf51a9a10d893f1b94e604b1bfd601847563ce88347e41") true over (fun _ h=>by cases h) (by kernel_rfl) (fun _ h=>by cases h) journalMatchesReference_row_tie rfl ⟨rfl,rfl⟩ (by kernel_rfl) rfl
  (fun f fn hf hfn=>by
   obtain rfl:f=7:=Option.some.inj ((show Tryz.prog.funcNamed "putlog/putloglaw37.JournalMatchesReference"=some 7 by kernel_rfl).symm.trans hf) |>.symm
   obtain rfl:fn=Tryz.f7:=(Option.some.inj (Tryz.func7.symm.trans hfn)).symm
   exact ⟨by kernel_rfl,fun j t ht=>by
    have hm:t∈Tryz.f7.params:=Array.mem_of_getElem? ht
    have hall:(Tryz.f7.params.toList.all fun u=>!Tryz.pinned.checked.prog.wantsStandIn u)=true:=by kernel_rfl
    have:=List.all_eq_true.1 hall t (by simpa using hm)
    simpa using this⟩)
  (by kernel_rfl)
#print axioms proved
end Go.Proofs.YtobfnefajpiakaaGreatDoor.journalMatchesReference
