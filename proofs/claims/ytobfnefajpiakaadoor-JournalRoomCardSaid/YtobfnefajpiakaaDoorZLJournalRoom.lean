/-
 The law 'JournalRoom' holds for every input; its card is closed.
 Conditions: none beyond the card's own.
-/
import Derived.Test.YtobfnefajpiakaaDoorTie
import Derived.Test.YtobfnefajpiakaaDoorCards
import Derived.Test.YtobfnefajpiakaaDoorZ6
import Derived.Test.YtobfnefajpiakaaDoorZ7
import Derived.SevenTiedAt
import Derived.Clock
set_option linter.all false
namespace Go.Proofs.YtobfnefajpiakaaDoor.journalRoom
open Go Go.Abs Go.PE Go.RowKit Go.ChangeShapes Go.WideShapes Go.ChangeAt Go.WideMaps Go.WideElems Go.Proofs
set_option maxRecDepth 100000
set_option linter.unusedVariables false
theorem lifted (os:Os) (started:os.Started) (H:Type) (enc:TypeId×Value→H) :
  ReturnsInHanded {} Tryd.checked os 3 .any (fun w args=>(Rows.journalRoomSpec.pre enc Tryd.prog Tryd.f3 [] false w args∧laidMetH Tryd.prog Rows.journalRoomRow.laid w)∧sizedMet enc Tryd.prog Tryd.f3 (OpenSpec.ofChange Rows.journalRoomSpec) false w args) (Rows.journalRoomSpec.post enc Tryd.prog Tryd.f3 false true false false):=by
 refine returnsInHanded_of_change_and (C:=Tryd.checked) (X:=fun w _=>laidMetH Tryd.prog Rows.journalRoomRow.laid w) (fun _ _ _ hh h=>h.of_heap hh) own started (by kernel_rfl) Tryd.func3
  (ChangeSpec.witness_shaped (enc:=enc) (C:=Tryd.checked) (os:=os) (X:=fun w _=>laidMetH Tryd.prog Rows.journalRoomRow.laid w) false (World.laidAll Tryd.prog os Rows.journalRoomRow.laid) #[.int .i64 0,.slice none 0 0,.int .i64 0] 8 (World.laidAll_os _ _ _) (World.shaped_of_ZipB (by kernel_rfl) (by kernel_rfl)) (by kernel_rfl) (by kernel_rfl) (by kernel_rfl) (door_met os _)) ?_
 intro W base args ds gs before hval hW _ _ hL _
 obtain ⟨ea,herr⟩:=errs_ok hL
 exact law_contract laidOut c3 rfl tys3 rfl Tryd.underlying4 rfl (fun H ds h=>by
  match ds,h with
  | [d0,d1,d2],_=>exact ⟨rfl,rfl,rfl⟩) law3 (globs_ok hL) herr hval hW
theorem over:Rows.JournalRoomSaid :=
 OpenClaim.holds_of_wide 3 Tryd.f3 rfl rfl rfl rfl rfl rfl rfl ⟨rfl,rfl,rfl,rfl,rfl⟩ rfl rfl rfl rfl rfl (by kernel_rfl) Tryd.func3 (by kernel_rfl)
  (oD (by kernel_rfl)) (by unfold Func.isWrapper;first | (rw [if_pos (by decide +kernel)];kernel_rfl) | (rw [if_neg (by decide +kernel)];exact ⟨rfl,rfl⟩))
  (fun os started H enc _=>lifted os started H enc)
theorem proved:Rows.JournalRoomCardSaid :=
 Claim7.holds_tied_plain_at .later [] [.data,.data,.sentinel,.pinned] true (true,"7f0fb5e2ce0186958fff0dedec2ce4f8415266daaa777efba45c331c3a8e5ef0") true over (fun _ h=>by cases h) (by kernel_rfl) (fun _ h=>by cases h) journalRoom_row_tie rfl ⟨rfl,rfl⟩ (by kernel_rfl) rfl
  (fun f fn hf hfn=>by
   obtain rfl:f=3:=Option.some.inj ((show Tryd.prog.funcNamed "putlog/putloglaw37.JournalRoom"=some 3 by kernel_rfl).symm.trans hf) |>.symm
   obtain rfl:fn=Tryd.f3:=(Option.some.inj (Tryd.func3.symm.trans hfn)).symm
   exact ⟨by kernel_rfl,fun j t ht=>by
    have hm:t∈Tryd.f3.params:=Array.mem_of_getElem? ht
    have hall:(Tryd.f3.params.toList.all fun u=>!Tryd.pinned.checked.prog.wantsStandIn u)=true:=by kernel_rfl
    have:=List.all_eq_true.1 hall t (by simpa using hm)
    simpa using this⟩)
  (by kernel_rfl)
#print axioms proved
end Go.Proofs.YtobfnefajpiakaaDoor.journalRoom
