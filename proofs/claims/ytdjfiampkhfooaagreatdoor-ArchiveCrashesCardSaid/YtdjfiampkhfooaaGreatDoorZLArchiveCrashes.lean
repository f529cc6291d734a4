/-
 The law 'ArchiveCrashes' holds for every input; its card is closed.
 Conditions: none beyond the card's own.
-/
import Derived.Test.YtdjfiampkhfooaaGreatDoorTie
import Derived.Test.YtdjfiampkhfooaaGreatDoorCards
import Derived.Test.YtdjfiampkhfooaaGreatDoorZ5
import Derived.Test.YtdjfiampkhfooaaGreatDoorZ7
import Derived.SevenTiedAt
import Derived.Clock
set_option linter.all false
namespace Go.Proofs.YtdjfiampkhfooaaGreatDoor.archiveCrashes
open Go Go.Abs Go.PE Go.RowKit Go.ChangeShapes Go.WideShapes Go.ChangeAt Go.WideMaps Go.WideElems Go.Proofs
set_option maxRecDepth 100000
set_option linter.unusedVariables false
theorem lifted (os:Os) (started:os.Started) (H:Type) (enc:TypeId×Value→H) :
  ReturnsInHanded {} Tryz.checked os 3 .any (fun w args=>(Rows.archiveCrashesSpec.pre enc Tryz.prog Tryz.f3 [] false w args∧laidMetH Tryz.prog Rows.archiveCrashesRow.laid w)∧sizedMet enc Tryz.prog Tryz.f3 (OpenSpec.ofChange Rows.archiveCrashesSpec) false w args) (Rows.archiveCrashesSpec.post enc Tryz.prog Tryz.f3 false true false false):=by
 refine returnsInHanded_of_change_and (C:=Tryz.checked) (X:=fun w _=>laidMetH Tryz.prog Rows.archiveCrashesRow.laid w) (fun _ _ _ hh h=>h.of_heap hh) own started (by kernel_rfl) Tryz.func3
  (ChangeSpec.witness_shaped (enc:=enc) (C:=Tryz.checked) (os:=os) (X:=fun w _=>laidMetH Tryz.prog Rows.archiveCrashesRow.laid w) false (World.laidAll Tryz.prog os Rows.archiveCrashesRow.laid) #[.slice none 0 0,.int .i64 0,.slice none 0 0,.int .i64 0] 8 (World.laidAll_os _ _ _) (World.shaped_of_ZipB (by kernel_rfl) (by kernel_rfl)) (by kernel_rfl) (by kernel_rfl) (by kernel_rfl) (door_met os _)) ?_
 intro W base args ds gs before hval hW _ hsz hL _
 obtain ⟨ea,herr⟩:=errs_ok hL
 exact law_contractW laidOut c3 rfl tys3 rfl Tryz.underlying4 rfl (fun H ds h=>by
  match ds,h with
  | [d0,d1,d2,d3],_=>exact ⟨rfl,rfl,rfl⟩) (law3 hW hsz) (globs_ok hL) herr hval hW
theorem over:Rows.ArchiveCrashesSaid :=
 OpenClaim.holds_of_wide 3 Tryz.f3 rfl rfl rfl rfl rfl rfl rfl ⟨rfl,rfl,rfl,rfl,rfl⟩ rfl rfl rfl rfl rfl (by kernel_rfl) Tryz.func3 (by kernel_rfl)
  (oD (by kernel_rfl)) (by unfold Func.isWrapper;first | (rw [if_pos (by decide +kernel)];kernel_rfl) | (rw [if_neg (by decide +kernel)];exact ⟨rfl,rfl⟩))
  (fun os started H enc _=>lifted os started H enc)
theorem proved:Rows.ArchiveCrashesCardSaid :=
 Claim7.holds_tied_plain_at .later [] [.data,.data,.sentinel,.pinned] true (true,"a064246aafd45c97c9e8a254d546cece2a5ef3eb4d1826351dfabba6745699b0") true over (fun _ h=>by cases h) (by kernel_rfl) (fun _ h=>by cases h) archiveCrashes_row_tie rfl ⟨rfl,rfl⟩ (by kernel_rfl) rfl
  (fun f fn hf hfn=>by
   obtain rfl:f=3:=Option.some.inj ((show Tryz.prog.funcNamed "putlog/putloglaw39.ArchiveCrashes"=some 3 by kernel_rfl).symm.trans hf) |>.symm
   obtain rfl:fn=Tryz.f3:=(Option.some.inj (Tryz.func3.symm.trans hfn)).symm
   exact ⟨by kernel_rfl,fun j t ht=>by
    have hm:t∈Tryz.f3.params:=Array.mem_of_getElem? ht
    have hall:(Tryz.f3.params.toList.all fun u=>!Tryz.pinned.checked.prog.wantsStandIn u)=true:=by kernel_rfl
    have:=List.all_eq_true.1 hall t (by simpa using hm)
    simpa using this⟩)
  (by kernel_rfl)
#print axioms proved
end Go.Proofs.YtdjfiampkhfooaaGreatDoor.archiveCrashes
