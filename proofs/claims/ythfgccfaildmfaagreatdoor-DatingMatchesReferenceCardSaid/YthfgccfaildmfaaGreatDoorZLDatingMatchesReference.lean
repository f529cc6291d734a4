/-
 The law 'DatingMatchesReference' holds for every input; its card is closed.
 Conditions: none beyond the card's own.
-/
import Derived.Test.YthfgccfaildmfaaGreatDoorTie
import Derived.Test.YthfgccfaildmfaaGreatDoorCards
import Derived.Test.YthfgccfaildmfaaGreatDoorZ4
import Derived.Test.YthfgccfaildmfaaGreatDoorZ7
import Derived.SevenTiedAt
import Derived.Clock
set_option linter.all false
namespace Go.Proofs.YthfgccfaildmfaaGreatDoor.datingMatchesReference
open Go Go.Abs Go.PE Go.RowKit Go.ChangeShapes Go.WideShapes Go.ChangeAt Go.WideMaps Go.WideElems Go.Proofs
set_option maxRecDepth 100000
set_option linter.unusedVariables false
theorem lifted (os:Os) (started:os.Started) (H:Type) (enc:TypeId×Value→H) (F:Stop.Interp) :
  ReturnsInHanded { calm:=true } Tryz.checked os 3 .any (fun w args=>(Rows.datingMatchesReferenceSpec.pre enc Tryz.prog Tryz.f3 [] false w args∧laidMetH Tryz.prog Rows.datingMatchesReferenceRow.laid w)∧sizedMet enc Tryz.prog Tryz.f3 (OpenSpec.ofChange Rows.datingMatchesReferenceSpec) false w args) ((OpenSpec.ofChange Rows.datingMatchesReferenceSpec).postWith enc Tryz.prog Tryz.f3 F (outsideKept [.timePasses]) false true false):=by
 refine Clock.returns_of_change (C:=Tryz.checked) (X:=fun w _=>laidMetH Tryz.prog Rows.datingMatchesReferenceRow.laid w) (fun _ _ _ hh h=>h.of_heap hh) own started (by kernel_rfl) Tryz.func3
  (Clock.witness_at (enc:=enc) (C:=Tryz.checked) (os:=os) (X:=fun w _=>laidMetH Tryz.prog Rows.datingMatchesReferenceRow.laid w) (World.doorLaid Tryz.prog 400 os) #[.agg #[.int .i64 0,.slice none 0 0,.int .i64 0,.int .i64 0,.slice none 0 0,.slice none 0 0,.int .i64 0,.int .i64 0,.int .i64 0],.agg #[.int .i64 0,.int .i64 0,.int .i64 0],.agg #[.int .i64 0,.slice none 0 0,.slice none 0 0],.slice none 0 0,.int .i64 0,.int .i64 0,.int .i64 0,.slice none 0 0] 8 rfl (World.shaped_of_RefB (by kernel_rfl) (by kernel_rfl)) (by kernel_rfl) (by kernel_rfl) (by kernel_rfl) (door_met os _)) ?_
 intro W base args ds gs before hval hW _ _ hL _
 refine (law_contract' laidOut c3 rfl tys3 rfl Tryz.underlying4 rfl (fun H ds h=>by
  match ds,h with
  | [d0,d1,d2,d3,d4,d5,d6,d7],_=>exact ⟨rfl,rfl,rfl⟩) law3 (globs_ok hL) hval hW).mono fun e W' ⟨v,h1,h2,h3⟩=>⟨v,h1,?_,?_⟩
 ·have e:({ W' with os:=W.os }:World)=W':=by cases W';simp only at h3;subst h3;rfl
  rw [e];exact h2
 ·rw [h3];exact Clock.Later.refl _
theorem over:Rows.DatingMatchesReferenceSaid :=
 Clock.holds_of_wide_time 3 Tryz.f3 rfl rfl rfl rfl rfl rfl rfl ⟨rfl,rfl,rfl,rfl,rfl⟩ rfl rfl rfl rfl rfl (by kernel_rfl) Tryz.func3 (by kernel_rfl)
  (of_decide_eq_true (by kernel_rfl)) (by unfold Func.isWrapper;first | (rw [if_pos (by decide +kernel)];kernel_rfl) | (rw [if_neg (by decide +kernel)];exact ⟨rfl,rfl⟩))
  (fun os started H enc _ F=>lifted os started H enc F)
theorem proved:Rows.DatingMatchesReferenceCardSaid :=
 Claim7.holds_tied_plain_at .later [] [.data] true (true,"5d970535e0b85d91ed2ab7e46629a4429dd2fdddf56953fa9f0b76c1b730ab44") false over (fun _ h=>by cases h) (by kernel_rfl) (fun _ h=>by cases h) datingMatchesReference_row_tie rfl ⟨rfl,rfl⟩ (by kernel_rfl) rfl
  (fun f fn hf hfn=>by
   obtain rfl:f=3:=Option.some.inj ((show Tryz.prog.funcNamed "putlog/putloglaw22.DatingMatchesReference"=some 3 by kernel_rfl).symm.trans hf) |>.symm
   obtain rfl:fn=Tryz.f3:=(Option.some.inj (Tryz.func3.symm.trans hfn)).symm
   exact ⟨by kernel_rfl,fun j t ht=>by
    have hm:t∈Tryz.f3.params:=Array.mem_of_getElem? ht
    have hall:(Tryz.f3.params.toList.all fun u=>!Tryz.pinned.checked.prog.wantsStandIn u)=true:=by kernel_rfl
    have:=List.all_eq_true.1 hall t (by simpa using hm)
    simpa using this⟩)
  (by kernel_rfl)
#print axioms proved
end Go.Proofs.YthfgccfaildmfaaGreatDoor.datingMatchesReference
