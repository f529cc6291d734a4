/-
 Texts of this proof, put together: M1, So156, M2, So163, M3, M4, M5, M6, M7, Ba, Bb, Bc, Bd, Be, Bf, Bg, Bh, Bi, Bj, Bk, Bl, Bm, Bn, Bo, Bp, Bq, Br, Bt, Bu, Bv, Bw, Bx, By, Bz, BA, BB, BC, BD, BE, Oc, Od, Oe, Of, Og.
 No conditions.
-/
import Derived.Test.YthfgccfaildmfaaGreatDoorZ4
import Derived.Shelf.SlLaysF0
set_option linter.all false
/-
 Models of the functions of this seat, and that the functions compute them (printed by gen_models.py). No conditions.
-/
namespace Go.Proofs.YthfgccfaildmfaaGreatDoor
open Go Go.Abs Go.PE Go.Proofs
set_option linter.unusedVariables false
set_option maxRecDepth 100000

/-! putlog/dating.Certain -/
def as23 : List Ty := [(.pair (.pair tI (.list (.pair tI tI))) (.list (.pair tI (.pair tI (.pair tI (.pair tI tI)))))), tI, tI, tI]
def rs23 : List Ty := [(.list tI), .bool]
noncomputable def an23 : Ann := .a
noncomputable def m23 : (((Int × List (Int × Int)) × List (Int × Int × Int × Int × Int)) × Int × Int × Int) → Option (List Int × Bool) :=
 fun (x : ((Int × List (Int × Int)) × List (Int × Int × Int × Int × Int)) × Int × Int × Int) => Option.bind (m62 (((x.1.1.1, x.1.1.2), x.1.2), x.2.1, x.2.2.1,
 x.2.2.2)) fun (r : (Int × List (Int × Int × Int)) × (Int × Int × Int) × Bool) => bif PE.notM r.2.2 then some ([], false) else Option.bind (m63 ((r.1.1,
 r.1.2), r.2.1.1, r.2.1.2.1, r.2.1.2.2)) fun (r : List Int × Bool) => some (r.1, r.2)
theorem c23 : SpecOK Tryz.prog 23 ⟨as23, rs23, m23⟩ :=
 fc tabs63OK [] an23 Tryz.f23 fun x => by kernel_rfl
noncomputable def tabs23 : Tabs := Tabs.add tabs63 23 ⟨as23, rs23, m23⟩
theorem tabs23OK : TabOK Tryz.prog tabs23 := TabOK.add tabs63OK c23 Tryz.call23

/-! putlog/between.Cycle -/
def as50 : List Ty := [(.pair tI (.list (.pair tI (.pair tI tI))))]
def rs50 : List Ty := [(.list tI), .bool]
noncomputable def an50 : Ann := .seq (.a) (.seq (.a) (.seq (.a) (.seq (.a) (.seq (.seq (.reg [] [] [.s [0] [],.r] (.call [] [] (.seq (.a) (.a)) (.a))) (.block (.call [] [] (.seq (.a) (.block (.loop ⟨[(3,.r (.c (.d (.d (.list (.list tI))))))],(4::6::7::ra 11 48 ([])),[(3,.box [.h 6]),(5,.lp .ready)],[.arr (.list (.list tI))]⟩ [(.exit 0,⟨[],(3::4::6::7::ra 11 48 ([])),[(1,.box [.d (.d (.list tI))]),(2,.box [.d (.d .bool)]),(3,.box [.d (.d (.list (.list (.list tI))))]),(5,.lp (.done .ret))],[]⟩)] (.seq (.seq (.reg [] [] [z0,z0,.r] (.call [] [] (.seq (.a) (.block (.seq (.a) (.seq (.a) (.seq (.a) (.block (.loop ⟨[(33,.r (.c (.d (.d tI))))],(9::10::ra 34 25 (74::[])),[],[]⟩ [(.exit 2,⟨[],(9::10::ra 33 26 (74::[])),[],[]⟩),(.ret,⟨[],(9::10::ra 33 42 ([])),[(1,.box [.d (.d (.list tI))]),(2,.box [.d (.d .bool)]),(7,.frz (.list (.list tI)))],[]⟩)] (.seq (.a) (.seq (.a) (.seq (.block (.seq (.a) (.seq (.reg [0,1,3,7,15,7,7,71,231,487,7,1031,4071,8167,7,16391,65511,131047,262143,524287,1048575] (ra 0 21 ([])) (za 4 (.s [8] []::.s [3] []::z0::z0::.s [7] []::.s [7] []::z0::.s [8] []::za 3 (.s [8] []::za 5 ([])))) (.a)) (.a)))) (.a))))))))))) (.a))) (.a)) (.block (.seq (.reg [] [] [z0,.s [4] [],.r,z0] (.call [9] [] (.seq (.a) (.seq (.a) (.seq (.seq (.a) (.block (.loop ⟨[(11,.r (.c (.d (.d tI))))],(6::7::ra 12 21 ([])),[(8,.tab tI 10),(9,.gone)],[.us]⟩ [(.exit 0,⟨[],(6::7::ra 11 22 ([])),[(8,.tab tI 10),(9,.gone)],[.us]⟩)] (.seq (.a) (.seq (.a) (.seq (.block (.seq (.a) (.seq (.a) (.block (.loop ⟨[(15,.r (.c (.d (.d tI))))],(7::ra 16 16 ([])),[(8,.tab tI 11),(10,.gone)],[.us]⟩ [(.exit 2,⟨[],(7::ra 15 17 ([])),[(8,.tab tI 11),(10,.gone)],[.us]⟩)] (.seq (.a) (.seq (.a) (.seq (.block (.seq (.a) (.reg [0,0,0,0,12,28,0,0,0,448,960,2044,4095,8191] (ra 0 14 ([])) (za 4 (.s [8] []::.s [8] []::za 5 (.s [8] [8]::.s [8] []::.s [8,8] [8]::[]))) (.a)))) (.a))))))))) (.a))))))) (.a)))) (.a))) (.seq (.seq (.a) (.block (.loop ⟨[(20,.r (.c (.d (.d tI))))],(6::7::ra 21 37 ([])),[(8,.tab tI 10)],[]⟩ [(.exit 2,⟨[],(6::7::ra 20 38 ([])),[(8,.tab tI 10)],[]⟩)] (.seq (.a) (.seq (.a) (.seq (.block (.seq (.a) (.seq (.a) (.block (.loop ⟨[(26,.r (.c (.d (.d tI))))],(7::ra 27 30 ([])),[(8,.tab tI 10)],[]⟩ [(.exit 4,⟨[],(7::ra 26 31 ([])),[(8,.tab tI 10)],[]⟩)] (.seq (.a) (.seq (.a) (.seq (.block (.seq (.a) (.reg [0,0,3,7,0,16,0,0,192,448,0,1024,4032,8128,0,0,49152,114688,0,262144,1032192,2080768,0,4194304,16760832,33554368,67108863,134217727] (ra 0 28 ([])) (z0::z0::.s [8] []::.s [8] []::z0::.s [11] []::z0::z0::.s [8] []::.s [8] []::z0::.s [11] []::.s [8] []::.s [8] []::za 5 (.s [11] []::za 3 (.s [11] []::z0::z0::.s [8] []::.s [8] [8]::[]))) (.a)))) (.a))))))))) (.a))))))) (.a)))))))) (.a)))) (.a)))))
noncomputable def m50 : (Int × List (Int × Int × Int)) → Option (List Int × Bool) :=
 fun (x : Int × List (Int × Int × Int)) => Option.bind (m64 (x.1, x.2)) fun (r : Bool) => bif PE.notM r then some ([], false) else Option.bind (m65 (x.1, x.2))
 fun (r_1 : List (List Int) × Bool) => bif r_1.2 then some ([], false) else Option.bind (m104 x.1) fun (r_2 : List (List Int)) => Option.bind (loopM (fun (s :
 List (List Int) × List (List (List Int))) => Option.bind (appM (nat_lit 24) s.2 [s.1]) fun (r_3 : List (List (List Int))) => Option.bind (loopM (fun (s_1 :
 Int) => bif ltM s_1 (lenM x.2) then Option.bind (idxM x.2 s_1) fun (r_4 : Int × Int × Int) => Option.bind (bif ltM (0 : Int) (IntKind.wrap IntKind.i64 (lenM
 r_3 - (1 : Int))) then chkM (IntKind.wrap IntKind.i64 (IntKind.wrap IntKind.i64 (lenM r_3 - (1 : Int)) - (1 : Int))) (lenM r_3) else some ()) fun (r_5 : Unit)
 => Option.bind (bif ltM (0 : Int) (IntKind.wrap IntKind.i64 (lenM r_3 - (1 : Int))) then idxM r_3 (IntKind.wrap IntKind.i64 (IntKind.wrap IntKind.i64 (lenM
 r_3 - (1 : Int)) - (1 : Int))) else some []) fun (r_6 : List (List Int)) => Option.bind (bif ltM (0 : Int) (IntKind.wrap IntKind.i64 (lenM r_3 - (1 : Int)))
 then idxM r_6 r_4.2.1 else some []) fun (r_7 : List Int) => Option.bind (bif ltM (0 : Int) (IntKind.wrap IntKind.i64 (lenM r_3 - (1 : Int))) then idxM r_7
 r_4.1 else some (0 : Int)) fun (r_8 : Int) => Option.bind (bif ltM (0 : Int) (IntKind.wrap IntKind.i64 (lenM r_3 - (1 : Int))) then m88 (r_4.2.2, r_8) else
 some (0 : Int)) fun (r_9 : Int) => bif PE.andM (ltM (0 : Int) (IntKind.wrap IntKind.i64 (lenM r_3 - (1 : Int)))) (ltM r_9 (0 : Int)) then Option.bind (m89
 ((x.1, x.2), r_3, r_4.2.1, r_4.1, IntKind.wrap IntKind.i64 (IntKind.wrap IntKind.i64 (lenM r_3 - (1 : Int)) - (1 : Int)), IntKind.wrap IntKind.i64 ((-1 : Int)
 - r_4.2.2))) fun (r_10 : List Int) => Option.bind (appM (nat_lit 8) [s_1] r_10) fun (r : List Int) => some (Sum.inr (Sum.inr (r, true, r_3))) else some
 (Sum.inl (IntKind.wrap IntKind.i64 (s_1 + (1 : Int)))) else some (Sum.inr (Sum.inl ()))) (0 : Int)) fun (o : Unit ⊕ List Int × Bool × List (List (List Int)))
 => Sum.elim (fun (t : Unit) => Option.bind (mkM x.1 x.1 (nat_lit 24) []) fun (r_4 : List (List Int)) => Option.bind (loopM (fun (s_1 : Int × List (List Int))
 => bif ltM s_1.1 x.1 then Option.bind (loopM (fun (s_2 : Int × List (List Int)) => bif ltM s_2.1 x.1 then Option.bind (chkM s_1.1 (lenM s_2.2)) fun (r_5 :
 Unit) => Option.bind (chkM s_1.1 (lenM s_2.2)) fun (r_6 : Unit) => Option.bind (m135 (s_1.1, s_2.1)) fun (r_7 : Int) => Option.bind (app2M (nat_lit 8) s_2.2
 s_1.1 [r_7]) fun (r_8 : List (List Int)) => Option.bind (chkM s_1.1 (lenM r_8)) fun (r_9 : Unit) => Option.bind (Option.bind (sameM s_1.1 s_1.1) fun (x :
 Unit) => Option.bind (sameM s_1.1 s_1.1) fun (x : Unit) => chkM s_1.1 (lenM r_8)) fun (r : Unit) => some (Sum.inl (IntKind.wrap IntKind.i64 (s_2.1 + (1 :
 Int)), r_8)) else some (Sum.inr s_2.2)) ((0 : Int), s_1.2)) fun (o : List (List Int)) => some (Sum.inl (IntKind.wrap IntKind.i64 (s_1.1 + (1 : Int)), o)) else
 some (Sum.inr s_1.2)) ((0 : Int), r_4)) fun (o : List (List Int)) => Option.bind (loopM (fun (s_1 : Int × List (List Int)) => bif ltM s_1.1 (lenM x.2) then
 Option.bind (idxM x.2 s_1.1) fun (r_5 : Int × Int × Int) => Option.bind (loopM (fun (s_2 : Int × List (List Int)) => bif ltM s_2.1 x.1 then Option.bind (chkM
 s_2.1 (lenM s_2.2)) fun (r_6 : Unit) => Option.bind (chkM s_2.1 (lenM s_2.2)) fun (r_7 : Unit) => Option.bind (chkM s_2.1 (lenM s_2.2)) fun (r_8 : Unit) =>
 Option.bind (chkM s_2.1 (lenM s_2.2)) fun (r_9 : Unit) => Option.bind (Option.bind (idxM s_2.2 s_2.1) fun (xs : List Int) => chkM r_5.2.1 (lenM xs)) fun (r_10
 : Unit) => Option.bind (Option.bind (idxM s_2.2 s_2.1) fun (xs : List Int) => Option.bind (idxM xs r_5.2.1) fun (x : Int) => some x) fun (r_11 : Int) =>
 Option.bind (idxM s.1 s_2.1) fun (r_12 : List Int) => Option.bind (idxM r_12 r_5.1) fun (r_13 : Int) => Option.bind (m88 (r_13, r_5.2.2)) fun (r_14 : Int) =>
 Option.bind (Option.bind (idxM s_2.2 s_2.1) fun (xs : List Int) => chkM r_5.2.1 (lenM xs)) fun (r_15 : Unit) => Option.bind (set2M s_2.2 s_2.1 r_5.2.1 fun (x
 : Int) => some (min r_11 r_14)) fun (r : List (List Int)) => some (Sum.inl (IntKind.wrap IntKind.i64 (s_2.1 + (1 : Int)), r)) else some (Sum.inr s_2.2)) ((0 :
 Int), s_1.2)) fun (o : List (List Int)) => some (Sum.inl (IntKind.wrap IntKind.i64 (s_1.1 + (1 : Int)), o)) else some (Sum.inr s_1.2)) ((0 : Int), o)) fun (o
 : List (List Int)) => some (Sum.inl (o, r_3))) (fun (t : List Int × Bool × List (List (List Int))) => some (Sum.inr (t.1, t.2.1, t.2.2))) o) (r_2, [])) fun (o
 : List Int × Bool × List (List (List Int))) => some (o.1, o.2.1)
theorem c50 : SpecOK Tryz.prog 50 ⟨as50, rs50, m50⟩ :=
 fc tabs23OK [] an50 Tryz.f50 fun x => by kernel_rfl
noncomputable def tabs50 : Tabs := Tabs.add tabs23 50 ⟨as50, rs50, m50⟩
theorem tabs50OK : TabOK Tryz.prog tabs50 := TabOK.add tabs23OK c50 Tryz.call50

/-! cmp.isNaN[int] -/
def as184 : List Ty := [tI]
def rs184 : List Ty := [.bool]
noncomputable def an184 : Ann := .a
noncomputable def m184 : Int → Option (Bool) :=
 fun (x : Int) => some (PE.notM (eqM x x))
theorem c184 : SpecOK Tryz.prog 184 ⟨as184, rs184, m184⟩ :=
 fc tabs50OK [] an184 Tryz.f184 fun x => by kernel_rfl
noncomputable def tabs184 : Tabs := Tabs.add tabs50 184 ⟨as184, rs184, m184⟩
theorem tabs184OK : TabOK Tryz.prog tabs184 := TabOK.add tabs50OK c184 Tryz.call184

/-! putlog/dating.Blame -/
def as16 : List Ty := [(.pair (.pair tI (.list (.pair tI tI))) (.list (.pair tI (.pair tI (.pair tI (.pair tI tI))))))]
def rs16 : List Ty := [(.list tI), .bool]
noncomputable def an16 : Ann := .seq (.a) (.seq (.a) (.seq (.a) (.seq (.a) (.seq (.a) (.seq (.join [(.norm,⟨[],[29,30],[(2,.box [.h 3])],[.arr tI]⟩)] (.seq (.reg [] [] [.s [0] [],.r] (.call [] [] (.seq (.a) (.a)) (.a))) (.block (.call [] [] (.seq (.a) (.seq (.a) (.seq (.a) (.seq (.seq (.a) (.block (.loop ⟨[(23,.r (.c (.d (.d tI))))],(5::ra 24 8 ([])),[(2,.box [.h 6]),(4,.lp .ready)],[.arr tI]⟩ [(.exit 0,⟨[],(5::ra 23 9 ([])),[(2,.box [.h 6]),(4,.lp .ready)],[.arr tI]⟩),(.ret,⟨[],(5::ra 23 9 ([])),[(2,.box [.h 6]),(4,.lp .ready)],[.arr tI]⟩)] (.seq (.a) (.seq (.a) (.seq (.block (.seq (.a) (.seq (.reg [] [] [z0,z0,z0,.r,z0] (.call [] [] (.seq (.a) (.seq (.reg [] [] [.s [5] [],z0,z0,z0,z0,z0,z0,.r,z0,.s [5] [],z0,z0,z0,z0,z0,.r,z0,z0] (.call [] [] (.seq (.a) (.a)) (.gq (.s [5] []) (.gq z0 (.gq z0 (.gq z0 (.gq z0 (.gq z0 (.gq (.r) (.call [] [] (.seq (.a) (.a)) (.a)) (.a)) (.a)) (.a)) (.a)) (.a)) (.a)) (.a)))) (.a))) (.a))) (.a)))) (.a))))))) (.seq (.seq (.a) (.block (.loop ⟨[(35,.r (.c (.d (.d tI))))],(ra 6 8 (ra 36 60 ([]))),[(2,.box [.h 7]),(4,.lp .ready),(6,.gone)],[.arr tI]⟩ [(.exit 2,⟨[],(ra 6 8 (ra 35 61 ([]))),[(2,.box [.h 7]),(4,.lp .ready),(6,.gone)],[.arr tI]⟩),(.ret,⟨[],(ra 6 8 (ra 35 61 ([]))),[(2,.box [.h 7]),(4,.lp .ready),(6,.gone)],[.arr tI]⟩)] (.seq (.a) (.seq (.a) (.seq (.join [(.ret,⟨[],(ra 6 6 (ra 37 26 ([]))),[(2,.box [.h 8]),(4,.lp .ready),(7,.gone)],[.arr tI]⟩),(.norm,⟨[],(ra 6 8 (ra 37 58 ([]))),[(2,.box [.h 8]),(4,.lp .ready),(7,.gone)],[.arr tI]⟩)] (.block (.seq (.a) (.seq (.seq (.reg [0,0,2,7,15,31,31,63,255] (ra 0 9 ([])) (.s [] [9]::z0::.s [8] []::.s [9] []::za 5 ([])) (.a)) (.seq (.a) (.cond (.seq (.a) (.seq (.seq (.reg [] [] [z0,z0,z0,z0,.s [8] [],z0,z0,.r,z0] (.call [] [] (.seq (.a) (.seq (.reg [] [] [.s [5] [],z0,z0,z0,z0,z0,z0,.r,z0,.s [5] [],z0,z0,z0,z0,z0,.r,z0,z0] (.call [] [] (.seq (.a) (.a)) (.gq (.s [5] []) (.gq z0 (.gq z0 (.gq z0 (.gq z0 (.gq z0 (.gq (.r) (.call [] [] (.seq (.a) (.a)) (.a)) (.a)) (.a)) (.a)) (.a)) (.a)) (.a)) (.a)))) (.a))) (.a))) (.a)) (.a))) (.a)))) (.seq (.reg [0,0,2,7,0,31,63,127,127,255,1023] (ra 0 11 ([])) (.s [] [10]::z0::.s [8] []::.s [10] []::.s [8] []::za 6 ([])) (.a)) (.seq (.reg [] [] [.s [5] [],z0,z0,.s [8] [],z0,.s [8] [],z0,z0,.r,z0,z0,.s [5] [],z0,z0,.s [8] [],z0,.s [8] [],z0,z0,z0,.r,z0,z0] (.call [] [] (.seq (.a) (.a)) (.gq (.s [5] []) (.gq z0 (.gq z0 (.gq (.s [8] []) (.gq z0 (.gq (.s [8] []) (.gq z0 (.gq z0 (.gq z0 (.gq (.r) (.call [] [] (.seq (.a) (.a)) (.gq z0 (.a) (.a))) (.a)) (.a)) (.a)) (.a)) (.a)) (.a)) (.a)) (.a)) (.a)) (.a)))) (.a))))))) (.a))))))) (.seq (.a) (.seq (.a) (.block (.loop ⟨[(105,.r (.c (.d (.d tI))))],(16::17::ra 106 18 ([])),[(2,.box [.h 9]),(4,.lp .ready),(7,.gone)],[.arr tI]⟩ [(.exit 4,⟨[],(16::17::ra 105 19 ([])),[(2,.box [.h 9]),(4,.lp .ready),(7,.gone)],[.arr tI]⟩)] (.seq (.a) (.seq (.a) (.seq (.block (.seq (.a) (.seq (.reg [] [] [.s [5] [],z0,.s [3] [],z0,z0,z0,z0,.s [10] [],z0,.s [10] [],z0,.r,z0] (.call [] [] (.seq (.a) (.a)) (.a))) (.a)))) (.a))))))))))))) (.a))))) (.seq (.seq (.a) (.block (.loop ⟨[(9,.r (.c (.h 4))),(39,.r (.c (.d (.d tI))))],(12::ra 40 16 ([])),[],[.arr tI]⟩ [(.exit 2,⟨[(9,.r (.c (.h 4)))],(12::ra 39 17 ([])),[],[.arr tI]⟩)] (.seq (.a) (.seq (.a) (.seq (.join [(.norm,⟨[(9,.r (.c (.h 5)))],(12::ra 41 14 ([])),[(4,.gone)],[.arr tI]⟩)] (.a)) (.a))))))) (.seq (.reg [] [] [z0,.r,z0,z0] (.call [] [] (.seq (.a) (.a)) (.a))) (.a))))))))
noncomputable def m16 : ((Int × List (Int × Int)) × List (Int × Int × Int × Int × Int)) → Option (List Int × Bool) :=
 fun (x : (Int × List (Int × Int)) × List (Int × Int × Int × Int × Int)) => Option.bind (m24 ((x.1.1, x.1.2), x.2)) fun (r : (Int × List (Int × Int × Int)) ×
 Int) => Option.bind (m50 (r.1.1, r.1.2)) fun (r_1 : List Int × Bool) => bif PE.orM (PE.notM (eqM r.2 (0 : Int))) (PE.notM r_1.2) then some ([], false) else
 Option.bind (Option.bind (loopM (fun (s : Int × List Int) => bif ltM s.1 x.1.1 then Option.bind (appM (nat_lit 8) s.2 [(-1 : Int)]) fun (r_2 : List Int) =>
 Option.bind (appM (nat_lit 8) r_2 [(-1 : Int)]) fun (r : List Int) => some (Sum.inl (IntKind.wrap IntKind.i64 (s.1 + (1 : Int)), r)) else some (Sum.inr
 (Sum.inl s.2))) ((0 : Int), [])) fun (o : List Int ⊕ List Int) => Sum.elim (fun (t : List Int) => Option.bind (loopM (fun (s : Int × List Int) => bif ltM s.1
 (lenM x.2) then Option.bind (Option.bind (idxM x.2 s.1) fun (r_2 : Int × Int × Int × Int × Int) => bif PE.orM (eqM r_2.1 (1 : Int)) (PE.orM (eqM r_2.1 (2 :
 Int)) (eqM r_2.1 (3 : Int))) then Option.bind (bif eqM r_2.1 (1 : Int) then m138 (r_2.1, r_2.2.1, r_2.2.2.1, r_2.2.2.2.1, r_2.2.2.2.2) else bif eqM r_2.1 (2 :
 Int) then m139 (r_2.1, r_2.2.1, r_2.2.2.1, r_2.2.2.2.1, r_2.2.2.2.2) else bif eqM r_2.1 (3 : Int) then m140 (r_2.1, r_2.2.1, r_2.2.2.1, r_2.2.2.2.1,
 r_2.2.2.2.2) else none) fun (r_3 : Int × Int) => Option.bind (appM (nat_lit 8) s.2 [s.1]) fun (r_4 : List Int) => Option.bind (appM (nat_lit 8) r_4 [s.1]) fun
 (r : List Int) => some (Sum.inr r) else Option.bind (bif eqM r_2.1 (4 : Int) then m141 (r_2.1, r_2.2.1, r_2.2.2.1, r_2.2.2.2.1, r_2.2.2.2.2) else bif eqM
 r_2.1 (5 : Int) then m141 (r_2.1, r_2.2.1, r_2.2.2.1, r_2.2.2.2.1, r_2.2.2.2.2) else none) fun (r_3 : Int × Int) => Option.bind (appM (nat_lit 8) s.2 [s.1])
 fun (r_4 : List Int) => Option.bind (appM (nat_lit 8) r_4 [s.1]) fun (r : List Int) => some (Sum.inr r)) fun (o : List Int ⊕ List Int) => Sum.elim (fun (t :
 List Int) => some (Sum.inr (Sum.inr t))) (fun (t : List Int) => some (Sum.inl (IntKind.wrap IntKind.i64 (s.1 + (1 : Int)), t))) o else some (Sum.inr (Sum.inl
 s.2))) ((0 : Int), t)) fun (o : List Int ⊕ List Int) => Sum.elim (fun (t_1 : List Int) => Option.bind (m28 (x.1.1, x.1.2)) fun (r_2 : (Int × List (Int × Int))
 × Int) => Option.bind (loopM (fun (s : Int × List Int) => bif ltM s.1 (lenM r_2.1.2) then Option.bind (idxM r_2.1.2 s.1) fun (r_3 : Int × Int) => Option.bind
 (appM (nat_lit 8) s.2 [IntKind.wrap IntKind.i64 (lenM x.2 + s.1)]) fun (r : List Int) => some (Sum.inl (IntKind.wrap IntKind.i64 (s.1 + (1 : Int)), r)) else
 some (Sum.inr s.2)) ((0 : Int), t_1)) fun (o : List Int) => some o) (fun (t : List Int) => some t) o) (fun (t : List Int) => some t) o) fun (o : List Int) =>
 Option.bind (loopM (fun (s : Int × List Int) => bif ltM s.1 (lenM r_1.1) then Option.bind (Option.bind (idxM r_1.1 s.1) fun (r_2 : Int) => Option.bind (chkM
 r_2 (lenM o)) fun (r_3 : Unit) => Option.bind (idxM o r_2) fun (r_4 : Int) => bif leM (0 : Int) r_4 then Option.bind (chkM r_2 (lenM o)) fun (r_5 : Unit) =>
 Option.bind (idxM o r_2) fun (r_6 : Int) => Option.bind (appM (nat_lit 8) s.2 [r_6]) fun (r : List Int) => some r else some s.2) fun (o : List Int) => some
 (Sum.inl (IntKind.wrap IntKind.i64 (s.1 + (1 : Int)), o)) else some (Sum.inr s.2)) ((0 : Int), [])) fun (o_1 : List Int) => Option.bind (sortI o_1) fun (r_2 :
 List Int) => Option.bind (compI r_2) fun (r : List Int) => some (r, true)
theorem c16 : SpecOK Tryz.prog 16 ⟨as16, rs16, m16⟩ :=
 fc tabs184OK [] an16 Tryz.f16 fun x => by kernel_rfl
noncomputable def tabs16 : Tabs := Tabs.add tabs184 16 ⟨as16, rs16, m16⟩
theorem tabs16OK : TabOK Tryz.prog tabs16 := TabOK.add tabs184OK c16 Tryz.call16

/-! putlog/calendar.within -/
def as118 : List Ty := [tI, tI, tI]
def rs118 : List Ty := [.bool]
noncomputable def an118 : Ann := .a
noncomputable def m118 : (Int × Int × Int) → Option (Bool) :=
 fun (x : Int × Int × Int) => some (PE.andM (leM x.2.1 x.1) (leM x.1 x.2.2))
theorem c118 : SpecOK Tryz.prog 118 ⟨as118, rs118, m118⟩ :=
 fc tabs16OK [] an118 Tryz.f118 fun x => by kernel_rfl
noncomputable def tabs118 : Tabs := Tabs.add tabs16 118 ⟨as118, rs118, m118⟩
theorem tabs118OK : TabOK Tryz.prog tabs118 := TabOK.add tabs16OK c118 Tryz.call118

/-! putlog/calendar.isReign -/
def as109 : List Ty := [(.pair tI (.pair tI tI))]
def rs109 : List Ty := [.bool]
noncomputable def an109 : Ann := .a
noncomputable def m109 : (Int × Int × Int) → Option (Bool) :=
 fun (x : Int × Int × Int) => Option.bind (m118 (x.1, (0 : Int), (99 : Int))) fun (r : Bool) => some (PE.andM (PE.andM (PE.andM r (leM (0 : Int) x.2.1)) (ltM
 x.2.1 x.2.2)) (leM x.2.2 (800000 : Int)))
theorem c109 : SpecOK Tryz.prog 109 ⟨as109, rs109, m109⟩ :=
 fc tabs118OK [] an109 Tryz.f109 fun x => by kernel_rfl
noncomputable def tabs109 : Tabs := Tabs.add tabs118 109 ⟨as109, rs109, m109⟩
theorem tabs109OK : TabOK Tryz.prog tabs109 := TabOK.add tabs118OK c109 Tryz.call109

/-! putlog/calendar.Days$1 -/
def as108 : List Ty := [(.pair tI (.pair tI tI))]
def rs108 : List Ty := [.bool]
noncomputable def an108 : Ann := .a
noncomputable def m108 : (Int × Int × Int) → Option (Bool) :=
 fun (x : Int × Int × Int) => Option.bind (m109 (x.1, x.2.1, x.2.2)) fun (r : Bool) => some (PE.notM r)
theorem c108 : SpecOK Tryz.prog 108 ⟨as108, rs108, m108⟩ :=
 fc tabs109OK [] an108 Tryz.f108 fun x => by kernel_rfl
noncomputable def tabs108 : Tabs := Tabs.add tabs109 108 ⟨as108, rs108, m108⟩
theorem tabs108OK : TabOK Tryz.prog tabs108 := TabOK.add tabs109OK c108 Tryz.call108

/-! putlog/calendar.Valid -/
def as110 : List Ty := [(.pair tI tI)]
def rs110 : List Ty := [.bool]
noncomputable def an110 : Ann := .a
noncomputable def m110 : (Int × Int) → Option (Bool) :=
 fun (x : Int × Int) => Option.bind (m118 (x.1, (500000 : Int), (800001 : Int))) fun (r : Bool) => Option.bind (bif r then m118 (x.2, (1 : Int), (5 : Int)) else
 some false) fun (r_1 : Bool) => some (PE.andM r r_1)
theorem c110 : SpecOK Tryz.prog 110 ⟨as110, rs110, m110⟩ :=
 fc tabs108OK [] an110 Tryz.f110 fun x => by kernel_rfl
noncomputable def tabs110 : Tabs := Tabs.add tabs108 110 ⟨as110, rs110, m110⟩
theorem tabs110OK : TabOK Tryz.prog tabs110 := TabOK.add tabs108OK c110 Tryz.call110

/-! putlog/calendar.ValidPhrase -/
def as111 : List Ty := [(.pair tI (.pair tI (.pair tI (.pair tI (.pair tI (.pair tI tI))))))]
def rs111 : List Ty := [.bool]
noncomputable def an111 : Ann := .seq (.a) (.seq (.a) (.seq (.reg [0,1,3,7,15,31,63,127,255,511,1023,2047,4095,8191,16383,32767,16383,81919,212991,475135,1048575,2097151,4194303,8388607,16777215,33554431,67108863,134217727,268435455,536870911,1073741823,2147483647,4294967295] (ra 0 33 ([])) (z0::.s [0] []::za 3 (.s [0] []::za 4 (.s [0] []::za 4 (.s [0] []::z0::.s [0] []::za 5 (.s [0] []::za 3 (.s [0] []::za 5 ([]))))))) (.a)) (.seq (.a) (.seq (.a) (.seq (.a) (.seq (.block (.seq (.a) (.cond (.a) (.seq (.join [(.norm,⟨[(101,.r (.c (.d (.d .bool))))],(ra 102 17 ([])),[],[]⟩)] (.a)) (.a))))) (.a)))))))
noncomputable def m111 : (Int × Int × Int × Int × Int × Int × Int) → Option (Bool) :=
 fun (x : Int × Int × Int × Int × Int × Int × Int) => Option.bind (m118 (x.2.2.1, (1 : Int), (14 : Int))) fun (r : Bool) => Option.bind (bif eqM x.2.2.1 (0 :
 Int) then m118 (x.2.2.2.1, (1 : Int), (12 : Int)) else some false) fun (r_1 : Bool) => Option.bind (bif PE.andM (PE.andM (eqM x.2.2.1 (0 : Int)) r_1) (leM (1
 : Int) x.2.2.2.2.1) then idxM [(0 : Int), (31 : Int), (28 : Int), (31 : Int), (30 : Int), (31 : Int), (30 : Int), (31 : Int), (31 : Int), (30 : Int), (31 :
 Int), (30 : Int), (31 : Int)] x.2.2.2.1 else some (0 : Int)) fun (r_2 : Int) => Option.bind (m118 (x.1, (1 : Int), (7 : Int))) fun (r_3 : Bool) => Option.bind
 (bif r_3 then m118 (x.2.1, (1 : Int), (3 : Int)) else some false) fun (r_4 : Bool) => Option.bind (m118 (x.2.2.2.2.2.1, (0 : Int), (2100 : Int))) fun (r_5 :
 Bool) => Option.bind (bif PE.notM (PE.andM r_5 (eqM x.2.2.2.2.2.2 (-1 : Int))) then m118 (x.2.2.2.2.2.1, (1 : Int), (100 : Int)) else some false) fun (r_6 :
 Bool) => Option.bind (bif PE.andM (PE.notM (PE.andM r_5 (eqM x.2.2.2.2.2.2 (-1 : Int)))) r_6 then m118 (x.2.2.2.2.2.2, (0 : Int), (99 : Int)) else some false)
 fun (r_7 : Bool) => bif PE.andM (PE.notM (PE.orM (PE.andM (PE.andM r (eqM x.2.2.2.1 (0 : Int))) (eqM x.2.2.2.2.1 (0 : Int))) (PE.andM (PE.andM (PE.andM (eqM
 x.2.2.1 (0 : Int)) r_1) (leM (1 : Int) x.2.2.2.2.1)) (PE.orM (leM x.2.2.2.2.1 r_2) (PE.andM (eqM x.2.2.2.1 (2 : Int)) (eqM x.2.2.2.2.1 (29 : Int)))))))
 (PE.orM (PE.orM (PE.notM (eqM x.2.2.1 (0 : Int))) (PE.notM (eqM x.2.2.2.1 (0 : Int)))) (PE.notM (eqM x.2.2.2.2.1 (0 : Int)))) then some false else Option.bind
 (bif PE.andM (PE.notM (PE.andM r_3 r_4)) (PE.orM (PE.notM (eqM x.1 (0 : Int))) (PE.notM (eqM x.2.1 (0 : Int)))) then some (PE.andM (PE.notM (PE.andM r_3 r_4))
 (PE.orM (PE.notM (eqM x.1 (0 : Int))) (PE.notM (eqM x.2.1 (0 : Int))))) else some (PE.andM (PE.andM r_3 r_4) (PE.notM (PE.orM (PE.andM (PE.andM r (eqM
 x.2.2.2.1 (0 : Int))) (eqM x.2.2.2.2.1 (0 : Int))) (PE.andM (PE.andM (PE.andM (eqM x.2.2.1 (0 : Int)) r_1) (leM (1 : Int) x.2.2.2.2.1)) (PE.orM (leM
 x.2.2.2.2.1 r_2) (PE.andM (eqM x.2.2.2.1 (2 : Int)) (eqM x.2.2.2.2.1 (29 : Int))))))))) fun (o : Bool) => bif o then some false else some (PE.orM (PE.orM
 (PE.andM r_5 (eqM x.2.2.2.2.2.2 (-1 : Int))) (PE.andM r_6 r_7)) (PE.andM (PE.andM (PE.orM (PE.andM (PE.andM r (eqM x.2.2.2.1 (0 : Int))) (eqM x.2.2.2.2.1 (0 :
 Int))) (PE.andM (PE.andM (PE.andM (eqM x.2.2.1 (0 : Int)) r_1) (leM (1 : Int) x.2.2.2.2.1)) (PE.orM (leM x.2.2.2.2.1 r_2) (PE.andM (eqM x.2.2.2.1 (2 : Int))
 (eqM x.2.2.2.2.1 (29 : Int)))))) (eqM x.2.2.2.2.2.1 (-1 : Int))) (eqM x.2.2.2.2.2.2 (-1 : Int))))
theorem c111 : SpecOK Tryz.prog 111 ⟨as111, rs111, m111⟩ :=
 fc tabs110OK [] an111 Tryz.f111 fun x => by kernel_rfl
noncomputable def tabs111 : Tabs := Tabs.add tabs110 111 ⟨as111, rs111, m111⟩
theorem tabs111OK : TabOK Tryz.prog tabs111 := TabOK.add tabs110OK c111 Tryz.call111

/-! (putlog/calendar.style).days -/
def as182 : List Ty := [.bool, tI, tI]
def rs182 : List Ty := [tI]
noncomputable def an182 : Ann := .seq (.a) (.seq (.a) (.seq (.a) (.seq (.reg [] [] [z0,z0,.r,z0,z0] (.call [] [] (.seq (.a) (.a)) (.a))) (.seq (.a) (.seq (.join [(.norm,⟨[(7,.r (.c (.d (.d tI)))),(9,.r (.c (.d (.d .bool))))],(ra 21 20 ([])),[],[]⟩)] (.seq (.a) (.cond (.seq (.reg [] [] [z0,z0,.r,z0,z0,.r,z0,z0,z0] (.call [] [] (.seq (.a) (.a)) (.call [] [] (.seq (.a) (.a)) (.a)))) (.a)) (.a)))) (.seq (.seq (.a) (.block (.loop ⟨[(7,.r (.c (.d (.d tI)))),(10,.r (.c (.d (.d tI))))],(ra 41 17 ([])),[],[]⟩ [(.exit 0,⟨[(7,.r (.c (.d (.d tI))))],(10::ra 41 17 ([])),[],[]⟩)] (.seq (.a) (.seq (.join [(.norm,⟨[(7,.r (.c (.d (.d tI))))],(ra 46 12 ([])),[],[]⟩)] (.a)) (.a)))))) (.a)))))))
noncomputable def m182 : (Bool × Int × Int) → Option (Int) :=
 fun (x : Bool × Int × Int) => Option.bind (divM IntKind.i64 (IntKind.wrap IntKind.i64 (IntKind.wrap IntKind.i64 (x.2.1 + (4 : Int)) - (1 : Int))) (4 : Int)) fun
 (r : Int) => Option.bind (remM x.2.1 (4 : Int)) fun (r_1 : Int) => Option.bind (bif x.1 then Option.bind (divM IntKind.i64 (IntKind.wrap IntKind.i64
 (IntKind.wrap IntKind.i64 (x.2.1 + (100 : Int)) - (1 : Int))) (100 : Int)) fun (r_2 : Int) => Option.bind (divM IntKind.i64 (IntKind.wrap IntKind.i64
 (IntKind.wrap IntKind.i64 (x.2.1 + (400 : Int)) - (1 : Int))) (400 : Int)) fun (r_3 : Int) => Option.bind (bif eqM r_1 (0 : Int) then remM x.2.1 (100 : Int)
 else some (0 : Int)) fun (r_4 : Int) => Option.bind (bif PE.notM (PE.andM (eqM r_1 (0 : Int)) (PE.notM (eqM r_4 (0 : Int)))) then remM x.2.1 (400 : Int) else
 some (0 : Int)) fun (r_5 : Int) => some (IntKind.wrap IntKind.i64 (IntKind.wrap IntKind.i64 (IntKind.wrap IntKind.i64 ((365 : Int) * x.2.1) + r) +
 IntKind.wrap IntKind.i64 (IntKind.wrap IntKind.i64 ((2 : Int) - r_2) + r_3)), PE.orM (PE.andM (eqM r_1 (0 : Int)) (PE.notM (eqM r_4 (0 : Int)))) (eqM r_5 (0 :
 Int))) else some (IntKind.wrap IntKind.i64 (IntKind.wrap IntKind.i64 ((365 : Int) * x.2.1) + r), eqM r_1 (0 : Int))) fun (o : Int × Bool) => Option.bind
 (loopM (fun (s : Int × Int) => bif ltM s.2 x.2.2 then Option.bind (Option.bind (idxM [(0 : Int), (31 : Int), (28 : Int), (31 : Int), (30 : Int), (31 : Int),
 (30 : Int), (31 : Int), (31 : Int), (30 : Int), (31 : Int), (30 : Int), (31 : Int)] s.2) fun (r : Int) => bif PE.andM (eqM s.2 (2 : Int)) o.2 then some
 (IntKind.wrap IntKind.i64 (IntKind.wrap IntKind.i64 (s.1 + r) + (1 : Int))) else some (IntKind.wrap IntKind.i64 (s.1 + r))) fun (o : Int) => some (Sum.inl (o,
 IntKind.wrap IntKind.i64 (s.2 + (1 : Int)))) else some (Sum.inr s.1)) (o.1, (1 : Int))) fun (o : Int) => some o
theorem c182 : SpecOK Tryz.prog 182 ⟨as182, rs182, m182⟩ :=
 fc tabs111OK [] an182 Tryz.f182 fun x => by kernel_rfl
noncomputable def tabs182 : Tabs := Tabs.add tabs111 182 ⟨as182, rs182, m182⟩
theorem tabs182OK : TabOK Tryz.prog tabs182 := TabOK.add tabs111OK c182 Tryz.call182

/-! (putlog/calendar.style).easter -/
def as200 : List Ty := [.bool, tI]
def rs200 : List Ty := [tI]
noncomputable def an200 : Ann := .seq (.a) (.seq (.a) (.seq (.a) (.seq (.join [(.norm,⟨[(7,.r (.c (.d (.d tI))))],(ra 13 12 ([])),[],[]⟩)] (.a)) (.seq (.a) (.seq (.join [(.norm,⟨[(7,.r (.c (.d (.d tI))))],(ra 30 15 ([])),[],[]⟩)] (.a)) (.a))))))
noncomputable def m200 : (Bool × Int) → Option (Int) :=
 fun (x : Bool × Int) => Option.bind (remM x.2 (19 : Int)) fun (r : Int) => Option.bind (divM IntKind.i64 x.2 (100 : Int)) fun (r_1 : Int) => Option.bind (bif
 x.1 then Option.bind (divM IntKind.i64 (IntKind.wrap IntKind.i64 ((13 : Int) + IntKind.wrap IntKind.i64 ((8 : Int) * r_1))) (25 : Int)) fun (r_2 : Int) =>
 Option.bind (divM IntKind.i64 r_1 (4 : Int)) fun (r : Int) => some (IntKind.wrap IntKind.i64 ((15 : Int) + IntKind.wrap IntKind.i64 (IntKind.wrap IntKind.i64
 (r_1 - r_2) - r))) else some (15 : Int)) fun (o : Int) => Option.bind (remM (IntKind.wrap IntKind.i64 (IntKind.wrap IntKind.i64 ((19 : Int) * r) + o)) (30 :
 Int)) fun (r_2 : Int) => Option.bind (bif PE.andM x.1 (PE.orM (eqM r_2 (29 : Int)) (PE.andM (eqM r_2 (28 : Int)) (ltM (10 : Int) r))) then some (IntKind.wrap
 IntKind.i64 (r_2 - (1 : Int))) else some r_2) fun (o_1 : Int) => Option.bind (m182 (x.1, x.2, (3 : Int))) fun (r_3 : Int) => Option.bind (remM (IntKind.wrap
 IntKind.i64 (IntKind.wrap IntKind.i64 (IntKind.wrap IntKind.i64 (r_3 + (20 : Int)) + o_1) + (4 : Int))) (7 : Int)) fun (r : Int) => some (IntKind.wrap
 IntKind.i64 (IntKind.wrap IntKind.i64 (IntKind.wrap IntKind.i64 (IntKind.wrap IntKind.i64 (r_3 + (20 : Int)) + o_1) + (7 : Int)) - r))
theorem c200 : SpecOK Tryz.prog 200 ⟨as200, rs200, m200⟩ :=
 fc tabs182OK [] an200 Tryz.f200 fun x => by kernel_rfl
noncomputable def tabs200 : Tabs := Tabs.add tabs182 200 ⟨as200, rs200, m200⟩
theorem tabs200OK : TabOK Tryz.prog tabs200 := TabOK.add tabs182OK c200 Tryz.call200

/-! putlog/calendar.easter -/
def as181 : List Ty := [(.pair tI tI), tI]
def rs181 : List Ty := [tI]
noncomputable def an181 : Ann := .a
noncomputable def m181 : ((Int × Int) × Int) → Option (Int) :=
 fun (x : (Int × Int) × Int) => Option.bind (m200 (false, x.2)) fun (r : Int) => bif ltM r x.1.1 then some r else Option.bind (m200 (true, x.2)) fun (r : Int) =>
 some r
theorem c181 : SpecOK Tryz.prog 181 ⟨as181, rs181, m181⟩ :=
 fc tabs200OK [] an181 Tryz.f181 fun x => by kernel_rfl
noncomputable def tabs181 : Tabs := Tabs.add tabs200 181 ⟨as181, rs181, m181⟩
theorem tabs181OK : TabOK Tryz.prog tabs181 := TabOK.add tabs200OK c181 Tryz.call181

/-! (putlog/calendar.style).date -/
def as158 : List Ty := [.bool, tI]
def rs158 : List Ty := [(.pair tI (.pair tI tI))]
noncomputable def an158 : Ann := .seq (.a) (.seq (.reg [] [] [z0,.r,.s [] [3],.s [3] [3]] (.call [] [] (.seq (.a) (.seq (.a) (.seq (.block (.loop ⟨[(5,.r (.c (.d (.d tI)))),(6,.r (.c (.d (.d tI))))],(7::ra 9 16 ([])),[],[]⟩ [(.exit 0,⟨[(5,.r (.c (.d (.d tI))))],(6::7::ra 9 16 ([])),[],[]⟩)] (.seq (.a) (.block (.seq (.a) (.seq (.reg [] [] [z0,z0,.r,z0] (.call [] [] (.seq (.a) (.seq (.reg [0,0,2,7,0,31,63] (ra 0 7 ([])) (.s [0] []::za 3 (.s [1] []::z0::z0::[])) (.a)) (.a))) (.a))) (.a))))))) (.a)))) (.a))) (.seq (.reg [] [] [z0,.r,z0,z0] (.call [] [] (.seq (.a) (.seq (.a) (.seq (.block (.loop ⟨[(5,.r (.c (.d (.d tI)))),(6,.r (.c (.d (.d tI))))],(7::ra 9 16 ([])),[],[]⟩ [(.exit 0,⟨[(5,.r (.c (.d (.d tI))))],(6::7::ra 9 16 ([])),[],[]⟩)] (.seq (.a) (.block (.seq (.a) (.seq (.reg [] [] [z0,z0,.r,z0] (.call [] [] (.seq (.a) (.seq (.reg [0,0,0,4,15,0,63,127] (ra 0 8 ([])) (.s [0] []::.s [3] []::za 3 (.s [1] []::z0::z0::[])) (.a)) (.a))) (.a))) (.a))))))) (.a)))) (.a))) (.seq (.reg [0,0,0,0,0,0,56,124,252,511,1023] (ra 0 11 ([])) (.s [3] []::z0::.s [1] []::.s [0] []::.s [3] []::za 5 (.s [2] [2]::[])) (.a)) (.a))))
noncomputable def m158 : (Bool × Int) → Option (Int × Int × Int) :=
 fun (x : Bool × Int) => Option.bind (loopM (fun (s : Int × Int) => bif ltM s.1 s.2 then Option.bind (shrM IntKind.u64 (IntKind.wrap IntKind.u64 (IntKind.wrap
 IntKind.i64 (s.1 + s.2))) (1 : Int)) fun (r : Int) => Option.bind (m182 (x.1, IntKind.wrap IntKind.i64 (IntKind.wrap IntKind.i64 r + (1 : Int)), (1 : Int)))
 fun (r_1 : Int) => bif PE.notM (ltM x.2 r_1) then some (Sum.inl (IntKind.wrap IntKind.i64 (IntKind.wrap IntKind.i64 r + (1 : Int)), s.2)) else some (Sum.inl
 (s.1, IntKind.wrap IntKind.i64 r)) else some (Sum.inr s.1)) ((0 : Int), (2200 : Int))) fun (o : Int) => Option.bind (loopM (fun (s : Int × Int) => bif ltM s.1
 s.2 then Option.bind (shrM IntKind.u64 (IntKind.wrap IntKind.u64 (IntKind.wrap IntKind.i64 (s.1 + s.2))) (1 : Int)) fun (r : Int) => Option.bind (m182 (x.1,
 o, IntKind.wrap IntKind.i64 (IntKind.wrap IntKind.i64 r + (2 : Int)))) fun (r_1 : Int) => bif PE.notM (ltM x.2 r_1) then some (Sum.inl (IntKind.wrap
 IntKind.i64 (IntKind.wrap IntKind.i64 r + (1 : Int)), s.2)) else some (Sum.inl (s.1, IntKind.wrap IntKind.i64 r)) else some (Sum.inr s.1)) ((0 : Int), (11 :
 Int))) fun (o_1 : Int) => Option.bind (m182 (x.1, o, IntKind.wrap IntKind.i64 ((1 : Int) + o_1))) fun (r : Int) => some (o, IntKind.wrap IntKind.i64 ((1 :
 Int) + o_1), IntKind.wrap IntKind.i64 (IntKind.wrap IntKind.i64 (x.2 - r) + (1 : Int)))
theorem c158 : SpecOK Tryz.prog 158 ⟨as158, rs158, m158⟩ :=
 fc tabs181OK [] an158 Tryz.f158 fun x => by kernel_rfl
noncomputable def tabs158 : Tabs := Tabs.add tabs181 158 ⟨as158, rs158, m158⟩
theorem tabs158OK : TabOK Tryz.prog tabs158 := TabOK.add tabs181OK c158 Tryz.call158

/-! putlog/calendar.date -/
def as119 : List Ty := [(.pair tI tI), tI]
def rs119 : List Ty := [(.pair tI (.pair tI tI))]
noncomputable def an119 : Ann := .a
noncomputable def m119 : ((Int × Int) × Int) → Option (Int × Int × Int) :=
 fun (x : (Int × Int) × Int) => Option.bind (m158 (leM x.1.1 x.2, x.2)) fun (r : Int × Int × Int) => some (r.1, r.2.1, r.2.2)
theorem c119 : SpecOK Tryz.prog 119 ⟨as119, rs119, m119⟩ :=
 fc tabs158OK [] an119 Tryz.f119 fun x => by kernel_rfl
noncomputable def tabs119 : Tabs := Tabs.add tabs158 119 ⟨as119, rs119, m119⟩
theorem tabs119OK : TabOK Tryz.prog tabs119 := TabOK.add tabs158OK c119 Tryz.call119

/-! cmp.Compare[int] -/
def as157 : List Ty := [tI, tI]
def rs157 : List Ty := [tI]
noncomputable def an157 : Ann := .a
noncomputable def m157 : (Int × Int) → Option (Int) :=
 fun (x : Int × Int) => Option.bind (m184 x.1) fun (r : Bool) => Option.bind (m184 x.2) fun (r_1 : Bool) => bif r then bif r_1 then some (0 : Int) else some (-1
 : Int) else bif r_1 then some (1 : Int) else bif ltM x.1 x.2 then some (-1 : Int) else bif ltM x.2 x.1 then some (1 : Int) else some (0 : Int)
theorem c157 : SpecOK Tryz.prog 157 ⟨as157, rs157, m157⟩ :=
 fc tabs119OK [] an157 Tryz.f157 fun x => by kernel_rfl
noncomputable def tabs157 : Tabs := Tabs.add tabs119 157 ⟨as157, rs157, m157⟩
theorem tabs157OK : TabOK Tryz.prog tabs157 := TabOK.add tabs119OK c157 Tryz.call157

/-! cmp.Or[int] -/
def as164 : List Ty := [(.list tI)]
def rs164 : List Ty := [tI]
noncomputable def an164 : Ann := .seq (.a) (.seq (.a) (.seq (.seq (.a) (.block (.loop ⟨[(8,.r (.c (.d (.d tI))))],(5::ra 9 6 (16::[])),[],[]⟩ [(.exit 0,⟨[],(5::ra 8 7 (16::[])),[],[]⟩),(.ret,⟨[(2,.r (.c (.d (.d tI))))],(5::ra 8 9 ([])),[],[]⟩)] (.a)))) (.a)))
noncomputable def m164 : List Int → Option (Int) :=
 fun (x : List Int) => Option.bind (loopM (fun (s : Int) => bif ltM s (lenM x) then Option.bind (idxM x s) fun (r : Int) => bif PE.notM (eqM r (0 : Int)) then
 some (Sum.inr (Sum.inr r)) else some (Sum.inl (IntKind.wrap IntKind.i64 (s + (1 : Int)))) else some (Sum.inr (Sum.inl ()))) (0 : Int)) fun (o : Unit ⊕ Int) =>
 Sum.elim (fun (t : Unit) => some (0 : Int)) (fun (t : Int) => some t) o
theorem c164 : SpecOK Tryz.prog 164 ⟨as164, rs164, m164⟩ :=
 fc tabs157OK [] an164 Tryz.f164 fun x => by kernel_rfl
noncomputable def tabs164 : Tabs := Tabs.add tabs157 164 ⟨as164, rs164, m164⟩
theorem tabs164OK : TabOK Tryz.prog tabs164 := TabOK.add tabs157OK c164 Tryz.call164

/-! putlog/calendar.compare -/
def as199 : List Ty := [(.pair tI (.pair tI tI)), (.pair tI (.pair tI tI))]
def rs199 : List Ty := [tI]
noncomputable def an199 : Ann := .seq (.a) (.seq (.reg [0,1,0,4,15,0,32,0,128,511,0,1024,0,4096,16383,32767,65535,131071] (ra 0 18 ([])) (z0::.s [0] []::z0::.s [1] []::z0::z0::.s [0] []::z0::.s [1] []::z0::z0::.s [0] []::z0::.s [1] []::za 4 ([])) (.a)) (.a))
noncomputable def m199 : ((Int × Int × Int) × Int × Int × Int) → Option (Int) :=
 fun (x : (Int × Int × Int) × Int × Int × Int) => Option.bind (m157 (x.1.1, x.2.1)) fun (r : Int) => Option.bind (m157 (x.1.2.1, x.2.2.1)) fun (r_1 : Int) =>
 Option.bind (m157 (x.1.2.2, x.2.2.2)) fun (r_2 : Int) => Option.bind (m164 [r, r_1, r_2]) fun (r : Int) => some r
theorem c199 : SpecOK Tryz.prog 199 ⟨as199, rs199, m199⟩ :=
 fc tabs164OK [] an199 Tryz.f199 fun x => by kernel_rfl
noncomputable def tabs199 : Tabs := Tabs.add tabs164 199 ⟨as199, rs199, m199⟩
theorem tabs199OK : TabOK Tryz.prog tabs199 := TabOK.add tabs164OK c199 Tryz.call199

/-! putlog/calendar.first -/
def as180 : List Ty := [(.pair tI tI), (.pair tI (.pair tI tI))]
def rs180 : List Ty := [tI]
noncomputable def an180 : Ann := .seq (.a) (.seq (.reg [] [] [z0,.r,z0] (.call [] [] (.seq (.a) (.seq (.a) (.seq (.block (.loop ⟨[(5,.r (.c (.d (.d tI)))),(6,.r (.c (.d (.d tI))))],(7::ra 9 16 ([])),[],[]⟩ [(.exit 0,⟨[(5,.r (.c (.d (.d tI))))],(6::7::ra 9 16 ([])),[],[]⟩)] (.seq (.a) (.block (.seq (.a) (.seq (.reg [] [] [z0,z0,.r,z0] (.call [] [] (.seq (.a) (.seq (.reg [0,0,3,0,15,31,63] (ra 0 7 ([])) (.s [0] []::z0::z0::.s [1] []::za 3 ([])) (.a)) (.a))) (.a))) (.a))))))) (.a)))) (.a))) (.a))
noncomputable def m180 : ((Int × Int) × Int × Int × Int) → Option (Int) :=
 fun (x : (Int × Int) × Int × Int × Int) => Option.bind (loopM (fun (s : Int × Int) => bif ltM s.1 s.2 then Option.bind (shrM IntKind.u64 (IntKind.wrap
 IntKind.u64 (IntKind.wrap IntKind.i64 (s.1 + s.2))) (1 : Int)) fun (r : Int) => Option.bind (m119 ((x.1.1, x.1.2), IntKind.wrap IntKind.i64 r)) fun (r_1 : Int
 × Int × Int) => Option.bind (m199 ((r_1.1, r_1.2.1, r_1.2.2), x.2.1, x.2.2.1, x.2.2.2)) fun (r_2 : Int) => bif PE.notM (leM (0 : Int) r_2) then some (Sum.inl
 (IntKind.wrap IntKind.i64 (IntKind.wrap IntKind.i64 r + (1 : Int)), s.2)) else some (Sum.inl (s.1, IntKind.wrap IntKind.i64 r)) else some (Sum.inr s.1)) ((0 :
 Int), (800001 : Int))) fun (o : Int) => some o
theorem c180 : SpecOK Tryz.prog 180 ⟨as180, rs180, m180⟩ :=
 fc tabs199OK [] an180 Tryz.f180 fun x => by kernel_rfl
noncomputable def tabs180 : Tabs := Tabs.add tabs199 180 ⟨as180, rs180, m180⟩
theorem tabs180OK : TabOK Tryz.prog tabs180 := TabOK.add tabs199OK c180 Tryz.call180

/-! putlog/calendar.start -/
def as178 : List Ty := [(.pair tI tI), tI]
def rs178 : List Ty := [tI]
noncomputable def an178 : Ann := .a
noncomputable def m178 : ((Int × Int) × Int) → Option (Int) :=
 fun (x : (Int × Int) × Int) => bif eqM x.1.2 (4 : Int) then Option.bind (m181 ((x.1.1, x.1.2), x.2)) fun (r : Int) => some r else bif eqM x.1.2 (2 : Int) then
 Option.bind (m180 ((x.1.1, x.1.2), x.2, (3 : Int), (25 : Int))) fun (r : Int) => some r else bif eqM x.1.2 (3 : Int) then Option.bind (m180 ((x.1.1, x.1.2),
 IntKind.wrap IntKind.i64 (x.2 - (1 : Int)), (3 : Int), (25 : Int))) fun (r : Int) => some r else bif eqM x.1.2 (5 : Int) then Option.bind (m180 ((x.1.1,
 x.1.2), IntKind.wrap IntKind.i64 (x.2 - (1 : Int)), (9 : Int), (1 : Int))) fun (r : Int) => some r else Option.bind (m180 ((x.1.1, x.1.2), x.2, (1 : Int), (1
 : Int))) fun (r : Int) => some r
theorem c178 : SpecOK Tryz.prog 178 ⟨as178, rs178, m178⟩ :=
 fc tabs180OK [] an178 Tryz.f178 fun x => by kernel_rfl
noncomputable def tabs178 : Tabs := Tabs.add tabs180 178 ⟨as178, rs178, m178⟩
theorem tabs178OK : TabOK Tryz.prog tabs178 := TabOK.add tabs180OK c178 Tryz.call178

/-! putlog/calendar.Year -/
def as148 : List Ty := [(.pair tI tI), tI]
def rs148 : List Ty := [(.pair tI tI), tI]
noncomputable def an148 : Ann := .seq (.a) (.seq (.a) (.seq (.reg [0,0,3,0,0,16,63,127,255,511] (ra 0 10 ([])) (.s [0] []::z0::z0::.s [0] []::za 4 (.s [1] [1]::z0::[])) (.a)) (.a)))
noncomputable def m148 : ((Int × Int) × Int) → Option ((Int × Int) × Int) :=
 fun (x : (Int × Int) × Int) => Option.bind (m110 (x.1.1, x.1.2)) fun (r : Bool) => Option.bind (bif PE.notM (PE.notM r) then m118 (x.2, (0 : Int), (2100 : Int))
 else some false) fun (r_1 : Bool) => bif PE.orM (PE.notM r) (PE.notM r_1) then some (((0 : Int), (0 : Int)), (200 : Int)) else Option.bind (m178 ((x.1.1,
 x.1.2), x.2)) fun (r_2 : Int) => Option.bind (m178 ((x.1.1, x.1.2), IntKind.wrap IntKind.i64 (x.2 + (1 : Int)))) fun (r : Int) => some ((r_2, r), (0 : Int))
theorem c148 : SpecOK Tryz.prog 148 ⟨as148, rs148, m148⟩ :=
 fc tabs178OK [] an148 Tryz.f148 fun x => by kernel_rfl
noncomputable def tabs148 : Tabs := Tabs.add tabs178 148 ⟨as148, rs148, m148⟩
theorem tabs148OK : TabOK Tryz.prog tabs148 := TabOK.add tabs178OK c148 Tryz.call148

/-! putlog/calendar.join$1 -/
def as156 : List Ty := [(.pair tI tI), (.pair tI tI)]
def rs156 : List Ty := [tI]
noncomputable def an156 : Ann := .a
noncomputable def m156 : ((Int × Int) × Int × Int) → Option (Int) :=
 fun (x : (Int × Int) × Int × Int) => Option.bind (m157 (x.1.1, x.2.1)) fun (r : Int) => some r
theorem c156 : SpecOK Tryz.prog 156 ⟨as156, rs156, m156⟩ :=
 fc tabs148OK [] an156 Tryz.f156 fun x => by kernel_rfl
noncomputable def tabs156 : Tabs := Tabs.add tabs148 156 ⟨as156, rs156, m156⟩
theorem tabs156OK : TabOK Tryz.prog tabs156 := TabOK.add tabs148OK c156 Tryz.call156
end Go.Proofs.YthfgccfaildmfaaGreatDoor
/-
 Dating: the comparison by which spells are joined, and the library's sort.
 No conditions.
-/
namespace Go.Proofs
open Go.Shelf
def Tryz.lays155_ren : Go.Shelf.Ren := ⟨fun | 6 => 155 | 15 => 143 | 14 => 183 | 28 => 175 | 29 => 176 | 20 => 202 | 21 => 203 | 22 => 204 | 23 => 205 | 24 => 206 | 25 => 207 | 26 => 208 | 27 => 209 | 46 => 222 | 47 => 194 | 48 => 195 | 49 => 223 | 50 => 224 | 57 => 229 | n => n, fun | 22 => 42 | 24 => 47 | 25 => 204 | 3 => 3 | 39 => 191 | 0 => 0 | 53 => 223 | 55 => 225 | 4 => 4 | 46 => 215 | 45 => 214 | 50 => 220 | 5 => 5 | 9 => 9 | 66 => 240 | 70 => 244 | 76 => 260 | 77 => 153 | n => n, fun | n => n⟩
theorem Tryz.lays155 : Go.Proofs.SlLaysF0.n6 Tryz.prog Tryz.lays155_ren := {
 mixed := by kernel_rfl
 f6 := ⟨Tryz.f155.name, by decide, Tryz.func155.trans (congrArg some (by kernel_rfl))⟩
 f14 := ⟨Tryz.f183.name, by decide, Tryz.func183.trans (congrArg some (by kernel_rfl))⟩
 f15 := Tryz.func143.trans (congrArg some (by kernel_rfl))
 f20 := ⟨Tryz.f202.name, by decide, Tryz.func202.trans (congrArg some (by kernel_rfl))⟩
 f21 := ⟨Tryz.f203.name, by decide, Tryz.func203.trans (congrArg some (by kernel_rfl))⟩
 f22 := ⟨Tryz.f204.name, by decide, Tryz.func204.trans (congrArg some (by kernel_rfl))⟩
 f23 := ⟨Tryz.f205.name, by decide, Tryz.func205.trans (congrArg some (by kernel_rfl))⟩
 f24 := ⟨Tryz.f206.name, by decide, Tryz.func206.trans (congrArg some (by kernel_rfl))⟩
 f25 := ⟨Tryz.f207.name, by decide, Tryz.func207.trans (congrArg some (by kernel_rfl))⟩
 f26 := ⟨Tryz.f208.name, by decide, Tryz.func208.trans (congrArg some (by kernel_rfl))⟩
 f27 := ⟨Tryz.f209.name, by decide, Tryz.func209.trans (congrArg some (by kernel_rfl))⟩
 f28 := Tryz.func175.trans (congrArg some (by kernel_rfl))
 f29 := Tryz.func176.trans (congrArg some (by kernel_rfl))
 f46 := ⟨Tryz.f222.name, by decide, Tryz.func222.trans (congrArg some (by kernel_rfl))⟩
 f47 := Tryz.func194.trans (congrArg some (by kernel_rfl))
 f48 := Tryz.func195.trans (congrArg some (by kernel_rfl))
 f49 := ⟨Tryz.f223.name, by decide, Tryz.func223.trans (congrArg some (by kernel_rfl))⟩
 f50 := ⟨Tryz.f224.name, by decide, Tryz.func224.trans (congrArg some (by kernel_rfl))⟩
 f57 := ⟨Tryz.f229.name, by decide, Tryz.func229.trans (congrArg some (by kernel_rfl))⟩
 t0 := Tryz.underlying0
 a0 := Tryz.isAgg0
 z0 := Tryz.sizeOf0
 v0 := Tryz.zeroValue0
 t3 := Tryz.underlying3
 a3 := Tryz.isAgg3
 z3 := Tryz.sizeOf3
 v3 := Tryz.zeroValue3
 t4 := Tryz.underlying4
 a4 := Tryz.isAgg4
 z4 := Tryz.sizeOf4
 v4 := Tryz.zeroValue4
 t5 := Tryz.underlying5
 a5 := Tryz.isAgg5
 z5 := Tryz.sizeOf5
 v5 := Tryz.zeroValue5
 t9 := Tryz.underlying9
 a9 := Tryz.isAgg9
 z9 := Tryz.sizeOf9
 v9 := Tryz.zeroValue9
 t22 := Tryz.underlying42
 a22 := Tryz.isAgg42
 z22 := Tryz.sizeOf42
 v22 := Tryz.zeroValue42
 t25 := Tryz.underlying204
 a25 := Tryz.isAgg204
 z25 := Tryz.sizeOf204
 v25 := Tryz.zeroValue204
 t39 := Tryz.underlying191
 a39 := Tryz.isAgg191
 z39 := Tryz.sizeOf191
 v39 := Tryz.zeroValue191
 t45 := Tryz.underlying214
 a45 := Tryz.isAgg214
 z45 := Tryz.sizeOf214
 v45 := Tryz.zeroValue214
 t46 := Tryz.underlying215
 a46 := Tryz.isAgg215
 z46 := Tryz.sizeOf215
 v46 := Tryz.zeroValue215
 t50 := Tryz.underlying220
 a50 := Tryz.isAgg220
 z50 := Tryz.sizeOf220
 v50 := Tryz.zeroValue220
 t53 := Tryz.underlying223
 a53 := Tryz.isAgg223
 z53 := Tryz.sizeOf223
 v53 := Tryz.zeroValue223
 t55 := Tryz.underlying225
 a55 := Tryz.isAgg225
 z55 := Tryz.sizeOf225
 v55 := Tryz.zeroValue225
 t66 := Tryz.underlying240
 a66 := Tryz.isAgg240
 z66 := Tryz.sizeOf240
 v66 := Tryz.zeroValue240
 t70 := Tryz.underlying244
 a70 := Tryz.isAgg244
 z70 := Tryz.sizeOf244
 v70 := Tryz.zeroValue244
 t76 := Tryz.underlying260
 a76 := Tryz.isAgg260
 z76 := Tryz.sizeOf260
 v76 := Tryz.zeroValue260
 t77 := Tryz.underlying153
 a77 := Tryz.isAgg153
 z77 := Tryz.sizeOf153
 v77 := Tryz.zeroValue153 }
end Go.Proofs
namespace Go.Proofs.YthfgccfaildmfaaGreatDoor
open Go Go.Abs Go.PE Go.Sort
open Go.Proofs (ltOf)
def cmpI (a b : Int) : Int := if a < b then -1 else if b < a then 1 else 0
theorem m184_eq (a : Int) : m184 a = some false := by
 show some (PE.notM (eqM a a)) = some false
 have : eqM a a = true := decide_eq_true rfl
 rw [this]; rfl
theorem m157_eq (a b : Int) : m157 (a, b) = some (cmpI a b) := by
 unfold m157 cmpI
 dsimp only
 rw [m184_eq, m184_eq]
 show (bif ltM a b then some (-1 : Int) else bif ltM b a then some (1 : Int) else some (0 : Int)) = _
 by_cases h1 : a < b
 ·have e1 : ltM a b = true := decide_eq_true h1
  rw [e1, if_pos h1]; rfl
 ·have e1 : ltM a b = false := decide_eq_false h1
  rw [e1, if_neg h1]
  by_cases h2 : b < a
  ·have e2 : ltM b a = true := decide_eq_true h2
   rw [e2, if_pos h2]; rfl
  ·have e2 : ltM b a = false := decide_eq_false h2
   rw [e2, if_neg h2]; rfl
def cf156 (x y : Int × Int) : Int := cmpI x.1 y.1
theorem hm156 (x y : Int × Int) : m156 (x, y) = some (cf156 x y) := by
 unfold m156 cf156
 dsimp only
 rw [m157_eq]
 rfl
theorem lt156 (x y : Int × Int) : ltOf cf156 x y = decide (x.1 < y.1) := by
 unfold ltOf cf156 cmpI
 by_cases h1 : x.1 < y.1
 ·simp [h1]
 ·by_cases h2 : y.1 < x.1 <;> simp [h1, h2]
theorem swo156 : SWO (ltOf cf156) where
 irrefl x := by rw [lt156]; simp
 trans x y z h1 h2 := by rw [lt156] at *; simp at *; omega
 ntrans x y z h1 h2 := by rw [lt156] at *; simp at *; omega
end Go.Proofs.YthfgccfaildmfaaGreatDoor
namespace Go.Proofs.YthfgccfaildmfaaGreatDoor
open Go Go.Abs Go.PE Go.Proofs
theorem sort156 : SortOK Tryz.prog ⟨155, 156, (.pair tI tI), sortM (.pair tI tI) cf156⟩ := sortOK_of (t := (.pair tI tI)) (cf := cf156) Tryz.lays155 rfl rfl rfl Tryz.isAgg47 Tryz.sizeOf47 Tryz.call155 Tryz.call156 c156 hm156 swo156
noncomputable def tabsS156 : Tabs := Tabs.addSo tabs156 ⟨155, 156, (.pair tI tI), sortM (.pair tI tI) cf156⟩
theorem tabsS156OK : TabOK Tryz.prog tabsS156 := TabOK.addSo tabs156OK sort156
end Go.Proofs.YthfgccfaildmfaaGreatDoor
/-
 Models of the functions of this seat, and that the functions compute them (printed by gen_models.py). No conditions.
-/
namespace Go.Proofs.YthfgccfaildmfaaGreatDoor
open Go Go.Abs Go.PE Go.Proofs
set_option linter.unusedVariables false
set_option maxRecDepth 100000

/-! putlog/calendar.bounds -/
def as113 : List Ty := [(.pair tI tI), (.list (.pair tI (.pair tI tI))), (.pair tI (.pair tI (.pair tI (.pair tI (.pair tI (.pair tI tI))))))]
def rs113 : List Ty := [(.list (.pair tI tI))]
noncomputable def an113 : Ann := .seq (.a) (.seq (.a) (.seq (.join [(.norm,⟨[(7,.r (.c (.h 2)))],(8::9::ra 14 16 ([])),[],[.arr (.pair tI tI)]⟩)] (.a)) (.seq (.seq (.a) (.block (.loop ⟨[],[],[],[]⟩ [(.exit 0,⟨[],[33],[],[]⟩)] (.a)))) (.seq (.reg [] [] [z0,.r,z0] (.call [] [] (.seq (.a) (.seq (.a) (.seq (.a) (.seq (.seq (.a) (.block (.loop ⟨[(3,.r (.c (.h 3))),(11,.r (.c (.d (.d tI))))],(5::6::ra 12 37 ([])),[],[.arr (.pair tI tI)]⟩ [(.exit 0,⟨[(3,.r (.c (.h 3)))],(5::6::ra 11 38 ([])),[],[.arr (.pair tI tI)]⟩)] (.seq (.a) (.seq (.a) (.seq (.join [(.norm,⟨[(3,.r (.c (.h 4)))],(5::6::ra 13 35 ([])),[(3,.gone)],[.arr (.pair tI tI)]⟩)] (.block (.seq (.a) (.seq (.a) (.seq (.reg [0,1,3,7,15,7,7,71,231,487,999,2047,4095] (ra 0 13 ([])) (za 4 (.s [4] []::za 3 (.s [3] []::z0::.s [3] []::z0::z0::[]))) (.a)) (.cond (.reg [0,0,2,0,0,16,56,120,248,0,512,2040,4095,8191,16383] (ra 0 15 ([])) (za 6 (.s [3] []::z0::.s [3] []::z0::.s [4] []::z0::.s [3] []::z0::.s [3] [3]::[])) (.a)) (.a))))))) (.a))))))) (.a))))) (.a))) (.a)))))
noncomputable def m113 : ((Int × Int) × (List (Int × Int × Int)) × Int × Int × Int × Int × Int × Int × Int) → Option (List (Int × Int)) :=
 fun (x : (Int × Int) × List (Int × Int × Int) × Int × Int × Int × Int × Int × Int × Int) => Option.bind (bif ltM x.2.2.2.2.2.2.2.2 (0 : Int) then Option.bind
 (m148 ((x.1.1, x.1.2), x.2.2.2.2.2.2.2.1)) fun (r : (Int × Int) × Int) => bif eqM r.2 (0 : Int) then Option.bind (appM (nat_lit 16) [] [(r.1.1, r.1.2)]) fun
 (r : List (Int × Int)) => some r else some [] else some []) fun (o : List (Int × Int)) => Option.bind (loopM (fun (s : Unit) => bif ltM (0 : Int) (lenM x.2.1)
 then Option.bind (idxM x.2.1 (0 : Int)) fun (r : Int × Int × Int) => none else some (Sum.inr ())) ()) fun (o_1 : Unit) => Option.bind (sortM (Ty.pair (Ty.int
 IntKind.i64) (Ty.int IntKind.i64)) cf156 o) fun (r : List (Int × Int)) => Option.bind (loopM (fun (s : Int × List (Int × Int)) => bif ltM s.1 (lenM r) then
 Option.bind (Option.bind (chkM s.1 (lenM r)) fun (r_1 : Unit) => Option.bind (idxM r s.1) fun (r_2 : Int × Int) => Option.bind (bif ltM (0 : Int) (lenM s.2)
 then chkM (IntKind.wrap IntKind.i64 (lenM s.2 - (1 : Int))) (lenM s.2) else some ()) fun (r_3 : Unit) => Option.bind (bif ltM (0 : Int) (lenM s.2) then
 Option.bind (idxM s.2 (IntKind.wrap IntKind.i64 (lenM s.2 - (1 : Int)))) fun (x : Int × Int) => some x.2 else some (0 : Int)) fun (r_4 : Int) => bif PE.andM
 (ltM (0 : Int) (lenM s.2)) (leM r_2.1 r_4) then Option.bind (chkM (IntKind.wrap IntKind.i64 (lenM s.2 - (1 : Int))) (lenM s.2)) fun (r_5 : Unit) =>
 Option.bind (Option.bind (idxM s.2 (IntKind.wrap IntKind.i64 (lenM s.2 - (1 : Int)))) fun (x : Int × Int) => some x.2) fun (r_6 : Int) => Option.bind (chkM
 (IntKind.wrap IntKind.i64 (lenM s.2 - (1 : Int))) (lenM s.2)) fun (r_7 : Unit) => Option.bind (setM s.2 (IntKind.wrap IntKind.i64 (lenM s.2 - (1 : Int))) fun
 (x : Int × Int) => some (x.1, max r_6 r_2.2)) fun (r : List (Int × Int)) => some r else Option.bind (appM (nat_lit 16) s.2 [(r_2.1, r_2.2)]) fun (r : List
 (Int × Int)) => some r) fun (o : List (Int × Int)) => some (Sum.inl (IntKind.wrap IntKind.i64 (s.1 + (1 : Int)), o)) else some (Sum.inr s.2)) ((0 : Int), []))
 fun (o : List (Int × Int)) => some o
theorem c113 : SpecOK Tryz.prog 113 ⟨as113, rs113, m113⟩ :=
 fc tabsS156OK [] an113 Tryz.f113 fun x => by kernel_rfl
noncomputable def tabs113 : Tabs := Tabs.add tabsS156 113 ⟨as113, rs113, m113⟩
theorem tabs113OK : TabOK Tryz.prog tabs113 := TabOK.add tabsS156OK c113 Tryz.call113

/-! putlog/calendar.Days -/
def as69 : List Ty := [(.pair tI tI), (.list (.pair tI (.pair tI tI))), (.pair tI (.pair tI (.pair tI (.pair tI (.pair tI (.pair tI tI))))))]
def rs69 : List Ty := [(.list (.pair tI tI)), tI]
noncomputable def an69 : Ann := .seq (.a) (.seq (.a) (.seq (.seq (.reg [] [] [.s [0] [],z0,z0,z0,.s [1] [],z0,z0,z0,z0,z0,z0,z0,z0,z0,z0,z0,.r,z0] (.call [] [(.norm,⟨[(29,.r (.c (.d (.d .bool))))],[],[],[]⟩)] (.seq (.a) (.seq (.reg [] [] [z0,z0,.r,z0,z0] (.call [] [(.norm,⟨[(7,.r (.c (.d (.d tI))))],[],[],[]⟩)] (.seq (.a) (.seq (.seq (.a) (.block (.loop ⟨[(8,.r (.c (.d (.d tI))))],(5::ra 9 8 (18::[])),[],[]⟩ [(.exit 0,⟨[],(5::ra 8 9 (18::[])),[],[]⟩),(.ret,⟨[(4,.r (.c (.d (.d tI))))],(5::ra 8 11 ([])),[],[]⟩)] (.a)))) (.a))) (.a))) (.a))) (.a))) (.a)) (.a)))
noncomputable def m69 : ((Int × Int) × (List (Int × Int × Int)) × Int × Int × Int × Int × Int × Int × Int) → Option ((List (Int × Int)) × Int) :=
 fun (x : (Int × Int) × List (Int × Int × Int) × Int × Int × Int × Int × Int × Int × Int) => Option.bind (m110 (x.1.1, x.1.2)) fun (r : Bool) => Option.bind (bif
 PE.notM (PE.notM r) then m111 (x.2.2.1, x.2.2.2.1, x.2.2.2.2.1, x.2.2.2.2.2.1, x.2.2.2.2.2.2.1, x.2.2.2.2.2.2.2.1, x.2.2.2.2.2.2.2.2) else some false) fun
 (r_1 : Bool) => Option.bind (bif PE.notM (PE.orM (PE.orM (PE.notM r) (PE.notM r_1)) (ltM (12 : Int) (lenM x.2.1))) then Option.bind (Option.bind (loopM (fun
 (s : Int) => bif ltM s (lenM x.2.1) then Option.bind (idxM x.2.1 s) fun (r_2 : Int × Int × Int) => Option.bind (m108 (r_2.1, r_2.2.1, r_2.2.2)) fun (r : Bool)
 => bif r then some (Sum.inr (Sum.inr s)) else some (Sum.inl (IntKind.wrap IntKind.i64 (s + (1 : Int)))) else some (Sum.inr (Sum.inl ()))) (0 : Int)) fun (o :
 Unit ⊕ Int) => Sum.elim (fun (t : Unit) => some (-1 : Int)) (fun (t : Int) => some t) o) fun (ov : Int) => some (leM (0 : Int) ov) else some false) fun (ov :
 Bool) => bif PE.orM (PE.orM (PE.orM (PE.notM r) (PE.notM r_1)) (ltM (12 : Int) (lenM x.2.1))) ov then some ([], (200 : Int)) else Option.bind (m113 ((x.1.1,
 x.1.2), x.2.1, x.2.2.1, x.2.2.2.1, x.2.2.2.2.1, x.2.2.2.2.2.1, x.2.2.2.2.2.2.1, x.2.2.2.2.2.2.2.1, x.2.2.2.2.2.2.2.2)) fun (r : List (Int × Int)) => bif
 PE.andM (eqM x.2.2.2.2.1 (0 : Int)) (eqM x.2.2.2.2.2.1 (0 : Int)) then some (r, (0 : Int)) else none
theorem c69 : SpecOK Tryz.prog 69 ⟨as69, rs69, m69⟩ :=
 fc tabs113OK [] an69 Tryz.f69 fun x => by kernel_rfl
noncomputable def tabs69 : Tabs := Tabs.add tabs113 69 ⟨as69, rs69, m69⟩
theorem tabs69OK : TabOK Tryz.prog tabs69 := TabOK.add tabs113OK c69 Tryz.call69

/-! putlog/calendar.DateOf -/
def as70 : List Ty := [(.pair tI tI), tI]
def rs70 : List Ty := [(.pair tI (.pair tI tI)), tI]
noncomputable def an70 : Ann := .a
noncomputable def m70 : ((Int × Int) × Int) → Option ((Int × Int × Int) × Int) :=
 fun (x : (Int × Int) × Int) => Option.bind (m110 (x.1.1, x.1.2)) fun (r : Bool) => Option.bind (bif PE.notM (PE.notM r) then m118 (x.2, (0 : Int), (800000 :
 Int)) else some false) fun (r_1 : Bool) => bif PE.orM (PE.notM r) (PE.notM r_1) then some (((0 : Int), (0 : Int), (0 : Int)), (200 : Int)) else Option.bind
 (m119 ((x.1.1, x.1.2), x.2)) fun (r : Int × Int × Int) => some ((r.1, r.2.1, r.2.2), (0 : Int))
theorem c70 : SpecOK Tryz.prog 70 ⟨as70, rs70, m70⟩ :=
 fc tabs69OK [] an70 Tryz.f70 fun x => by kernel_rfl
noncomputable def tabs70 : Tabs := Tabs.add tabs69 70 ⟨as70, rs70, m70⟩
theorem tabs70OK : TabOK Tryz.prog tabs70 := TabOK.add tabs69OK c70 Tryz.call70

/-! putlog/dating.Document -/
def as31 : List Ty := [(.pair tI tI), (.list (.pair tI (.pair tI tI))), (.pair tI (.pair tI (.pair tI (.pair tI (.pair tI (.pair tI tI)))))), tI]
def rs31 : List Ty := [(.pair tI (.pair tI (.pair tI (.pair tI tI)))), tI]
noncomputable def an31 : Ann := .seq (.a) (.seq (.a) (.seq (.a) (.seq (.reg [0,0,2,6,14,31,63,127,127,0,767,2047] (ra 0 12 ([])) (.s [0] []::za 8 (.s [] [3]::.s [3] [3]::z0::[])) (.a)) (.seq (.reg [0,0,0,4,12,30,62,126,254,511,1023,2047,2047,0,12287,32767] (ra 0 16 ([])) (.s [0] []::za 12 (.s [] [4]::.s [4] [4]::z0::[])) (.a)) (.a)))))
noncomputable def m31 : ((Int × Int) × (List (Int × Int × Int)) × (Int × Int × Int × Int × Int × Int × Int) × Int) → Option ((Int × Int × Int × Int × Int) × Int) :=
 fun (x : (Int × Int) × List (Int × Int × Int) × (Int × Int × Int × Int × Int × Int × Int) × Int) => Option.bind (m69 ((x.1.1, x.1.2), x.2.1, x.2.2.1.1,
 x.2.2.1.2.1, x.2.2.1.2.2.1, x.2.2.1.2.2.2.1, x.2.2.1.2.2.2.2.1, x.2.2.1.2.2.2.2.2.1, x.2.2.1.2.2.2.2.2.2)) fun (r : List (Int × Int) × Int) => Option.bind
 (bif PE.notM (PE.orM (PE.notM (eqM r.2 (0 : Int))) (eqM (lenM r.1) (0 : Int))) then m54 (x.2.2.2, (0 : Int), (7 : Int)) else some false) fun (r_1 : Bool) =>
 bif PE.orM (PE.orM (PE.notM (eqM r.2 (0 : Int))) (eqM (lenM r.1) (0 : Int))) (PE.notM r_1) then some (((0 : Int), (0 : Int), (0 : Int), (0 : Int), (0 : Int)),
 (220 : Int)) else Option.bind (idxM r.1 (0 : Int)) fun (r_2 : Int × Int) => Option.bind (m70 ((x.1.1, x.1.2), r_2.1)) fun (r_3 : (Int × Int × Int) × Int) =>
 Option.bind (idxM r.1 (IntKind.wrap IntKind.i64 (lenM r.1 - (1 : Int)))) fun (r_4 : Int × Int) => Option.bind (m70 ((x.1.1, x.1.2), IntKind.wrap IntKind.i64
 (r_4.2 - (1 : Int)))) fun (r : (Int × Int × Int) × Int) => bif ltM (2100 : Int) r_3.1.1 then some (((0 : Int), (0 : Int), (0 : Int), (0 : Int), (0 : Int)),
 (220 : Int)) else some (((1 : Int), x.2.2.2, (0 : Int), r_3.1.1, IntKind.wrap IntKind.i64 (min (2100 : Int) r.1.1 + (1 : Int))), (0 : Int))
theorem c31 : SpecOK Tryz.prog 31 ⟨as31, rs31, m31⟩ :=
 fc tabs70OK [] an31 Tryz.f31 fun x => by kernel_rfl
noncomputable def tabs31 : Tabs := Tabs.add tabs70 31 ⟨as31, rs31, m31⟩
theorem tabs31OK : TabOK Tryz.prog tabs31 := TabOK.add tabs70OK c31 Tryz.call31

/-! putlog/ring.isIn -/
def as121 : List Ty := [tI, tI, tI]
def rs121 : List Ty := [.bool]
noncomputable def an121 : Ann := .a
noncomputable def m121 : (Int × Int × Int) → Option (Bool) :=
 fun (x : Int × Int × Int) => some (PE.andM (leM x.2.1 x.1) (leM x.1 x.2.2))
theorem c121 : SpecOK Tryz.prog 121 ⟨as121, rs121, m121⟩ :=
 fc tabs31OK [] an121 Tryz.f121 fun x => by kernel_rfl
noncomputable def tabs121 : Tabs := Tabs.add tabs31 121 ⟨as121, rs121, m121⟩
theorem tabs121OK : TabOK Tryz.prog tabs121 := TabOK.add tabs31OK c121 Tryz.call121

/-! putlog/ring.areWidths$1 -/
def as210 : List Ty := [tI]
def rs210 : List Ty := [.bool]
noncomputable def an210 : Ann := .a
noncomputable def m210 : Int → Option (Bool) :=
 fun (x : Int) => Option.bind (m121 (x, (1 : Int), (9999 : Int))) fun (r : Bool) => some (PE.notM r)
theorem c210 : SpecOK Tryz.prog 210 ⟨as210, rs210, m210⟩ :=
 fc tabs121OK [] an210 Tryz.f210 fun x => by kernel_rfl
noncomputable def tabs210 : Tabs := Tabs.add tabs121 210 ⟨as210, rs210, m210⟩
theorem tabs210OK : TabOK Tryz.prog tabs210 := TabOK.add tabs121OK c210 Tryz.call210

/-! putlog/ring.areWidths -/
def as188 : List Ty := [(.list tI), tI]
def rs188 : List Ty := [.bool]
noncomputable def an188 : Ann := .seq (.a) (.seq (.a) (.seq (.reg [] [] [z0,z0,z0,z0,z0,z0,z0,.r,z0,z0,z0] (.call [] [(.norm,⟨[(13,.r (.c (.d (.d .bool))))],[],[],[]⟩)] (.seq (.a) (.seq (.reg [] [] [z0,z0,.r,z0,z0] (.call [] [(.norm,⟨[(7,.r (.c (.d (.d tI))))],[],[],[]⟩)] (.seq (.a) (.seq (.seq (.a) (.block (.loop ⟨[(8,.r (.c (.d (.d tI))))],(5::ra 9 8 (18::[])),[],[]⟩ [(.exit 0,⟨[],(5::ra 8 9 (18::[])),[],[]⟩),(.ret,⟨[(4,.r (.c (.d (.d tI))))],(5::ra 8 11 ([])),[],[]⟩)] (.a)))) (.a))) (.a))) (.a))) (.a))) (.a)))
noncomputable def m188 : (List Int × Int) → Option (Bool) :=
 fun (x : List Int × Int) => Option.bind (m121 (lenM x.1, (2 : Int), x.2)) fun (r : Bool) => Option.bind (bif r then Option.bind (Option.bind (loopM (fun (s :
 Int) => bif ltM s (lenM x.1) then Option.bind (idxM x.1 s) fun (r_1 : Int) => Option.bind (m210 r_1) fun (r : Bool) => bif r then some (Sum.inr (Sum.inr s))
 else some (Sum.inl (IntKind.wrap IntKind.i64 (s + (1 : Int)))) else some (Sum.inr (Sum.inl ()))) (0 : Int)) fun (o : Unit ⊕ Int) => Sum.elim (fun (t : Unit)
 => some (-1 : Int)) (fun (t : Int) => some t) o) fun (ov : Int) => some (leM (0 : Int) ov) else some false) fun (ov : Bool) => some (PE.andM r (PE.notM ov))
theorem c188 : SpecOK Tryz.prog 188 ⟨as188, rs188, m188⟩ :=
 fc tabs210OK [] an188 Tryz.f188 fun x => by kernel_rfl
noncomputable def tabs188 : Tabs := Tabs.add tabs210 188 ⟨as188, rs188, m188⟩
theorem tabs188OK : TabOK Tryz.prog tabs188 := TabOK.add tabs210OK c188 Tryz.call188

/-! putlog/ring.Valid -/
def as159 : List Ty := [(.pair tI (.list tI))]
def rs159 : List Ty := [.bool]
noncomputable def an159 : Ann := .a
noncomputable def m159 : (Int × List Int) → Option (Bool) :=
 fun (x : Int × List Int) => Option.bind (m188 (x.2, (200 : Int))) fun (r : Bool) => Option.bind (bif r then m121 (x.1, (0 : Int), IntKind.wrap IntKind.i64
 ((2101 : Int) - lenM x.2)) else some false) fun (r_1 : Bool) => some (PE.andM r r_1)
theorem c159 : SpecOK Tryz.prog 159 ⟨as159, rs159, m159⟩ :=
 fc tabs188OK [] an159 Tryz.f159 fun x => by kernel_rfl
noncomputable def tabs159 : Tabs := Tabs.add tabs188 159 ⟨as159, rs159, m159⟩
theorem tabs159OK : TabOK Tryz.prog tabs159 := TabOK.add tabs188OK c159 Tryz.call159

/-! putlog/ring.Sample -/
def as160 : List Ty := [(.list tI)]
def rs160 : List Ty := [.bool]
noncomputable def an160 : Ann := .a
noncomputable def m160 : List Int → Option (Bool) :=
 fun (x : List Int) => Option.bind (m188 (x, (60 : Int))) fun (r : Bool) => some r
theorem c160 : SpecOK Tryz.prog 160 ⟨as160, rs160, m160⟩ :=
 fc tabs159OK [] an160 Tryz.f160 fun x => by kernel_rfl
noncomputable def tabs160 : Tabs := Tabs.add tabs159 160 ⟨as160, rs160, m160⟩
theorem tabs160OK : TabOK Tryz.prog tabs160 := TabOK.add tabs159OK c160 Tryz.call160

/-! putlog/ring.differ$1 -/
def as191 : List Ty := [(.pair tI tI)]
def rs191 : List Ty := [.bool]
noncomputable def an191 : Ann := .a
noncomputable def m191 : (Int × Int) → Option (Bool) :=
 fun (x : Int × Int) => some (PE.notM (eqM x.1 x.2))
theorem c191 : SpecOK Tryz.prog 191 ⟨as191, rs191, m191⟩ :=
 fc tabs160OK [] an191 Tryz.f191 fun x => by kernel_rfl
noncomputable def tabs191 : Tabs := Tabs.add tabs160 191 ⟨as191, rs191, m191⟩
theorem tabs191OK : TabOK Tryz.prog tabs191 := TabOK.add tabs160OK c191 Tryz.call191

/-! putlog/ring.differ -/
def as161 : List Ty := [(.list tI), (.list tI)]
def rs161 : List Ty := [tI]
noncomputable def an161 : Ann := .seq (.a) (.seq (.reg [] [] [z0,z0,.r,.r,z0] (.call [] [] (.seq (.a) (.a)) (.call [] [] (.seq (.a) (.seq (.a) (.seq (.seq (.a) (.block (.call [] [] (.seq (.a) (.seq (.reg [] [] [.s [0] [],.r] (.call [] [] (.seq (.a) (.a)) (.a))) (.block (.call [] [] (.seq (.a) (.block (.loop ⟨[(3,.r (.c (.d (.d tI))))],(ra 4 21 ([])),[(3,.box [.d (.d tI)]),(4,.lp .ready),(7,.lp .ready)],[]⟩ [(.exit 0,⟨[],(ra 3 22 ([])),[(3,.box [.d (.d tI)]),(4,.lp .ready),(7,.lp .ready)],[]⟩)] (.seq (.a) (.seq (.block (.seq (.reg [0,0,2,0,0,24,56,0,0,256,896,1920,4088,8191,16383] (ra 0 15 ([])) [z0,z0,z0,.s [6] [],z0,z0,z0,.s [6] [],z0,z0,z0,z0,z0,.r,z0] (.call [] [] (.seq (.a) (.block (.seq (.reg [0,0,0,0,8,28,60,0,0,384,896,2044,4094,8191,16383] (ra 0 15 ([])) [.s [5] [],z0,.s [1] [],z0,z0,z0,z0,.s [1] [],z0,z0,z0,z0,z0,.r,z0] (.call [] [] (.seq (.a) (.join [(.norm,⟨[],[9,10,11,12,13],[(3,.box [.d (.d tI)])],[]⟩)] (.a))) (.a))) (.a)))) (.a))) (.a))) (.a)))))) (.a))))) (.a)))) (.a)))) (.a)))) (.a))
noncomputable def m161 : (List Int × List Int) → Option (Int) :=
 fun (x : List Int × List Int) => Option.bind (loopM (fun (s : Int × Int) => bif ltM s.1 (lenM x.1) then Option.bind (idxM x.1 s.1) fun (r : Int) => Option.bind
 (idxM x.1 (IntKind.wrap IntKind.i64 (s.1 - (1 : Int)))) fun (r_1 : Int) => Option.bind (m157 (r, r_1)) fun (r_2 : Int) => Option.bind (idxM x.2 (IntKind.wrap
 IntKind.i64 (IntKind.wrap IntKind.i64 (s.1 - (1 : Int)) + (1 : Int)))) fun (r_3 : Int) => Option.bind (idxM x.2 (IntKind.wrap IntKind.i64 (s.1 - (1 : Int))))
 fun (r_4 : Int) => Option.bind (m157 (r_3, r_4)) fun (r_5 : Int) => Option.bind (Option.bind (m191 (r_2, r_5)) fun (r : Bool) => bif r then some (IntKind.wrap
 IntKind.i64 (s.2 + (1 : Int))) else some s.2) fun (o : Int) => some (Sum.inl (IntKind.wrap IntKind.i64 (s.1 + (1 : Int)), o)) else some (Sum.inr s.2)) ((1 :
 Int), (0 : Int))) fun (o : Int) => some o
theorem c161 : SpecOK Tryz.prog 161 ⟨as161, rs161, m161⟩ :=
 fc tabs191OK [] an161 Tryz.f161 fun x => by kernel_rfl
noncomputable def tabs161 : Tabs := Tabs.add tabs191 161 ⟨as161, rs161, m161⟩
theorem tabs161OK : TabOK Tryz.prog tabs161 := TabOK.add tabs191OK c161 Tryz.call161

/-! putlog/ring.Match$1 -/
def as163 : List Ty := [(.pair tI tI), (.pair tI tI)]
def rs163 : List Ty := [tI]
noncomputable def an163 : Ann := .seq (.a) (.seq (.reg [0,1,0,4,15,0,32,0,128,511,1023,2047,4095] (ra 0 13 ([])) (z0::.s [0] []::z0::.s [1] []::z0::z0::.s [0] []::z0::.s [1] []::za 4 ([])) (.a)) (.a))
noncomputable def m163 : ((Int × Int) × Int × Int) → Option (Int) :=
 fun (x : (Int × Int) × Int × Int) => Option.bind (m157 (x.1.2, x.2.2)) fun (r : Int) => Option.bind (m157 (x.1.1, x.2.1)) fun (r_1 : Int) => Option.bind (m164
 [r, r_1]) fun (r : Int) => some r
theorem c163 : SpecOK Tryz.prog 163 ⟨as163, rs163, m163⟩ :=
 fc tabs161OK [] an163 Tryz.f163 fun x => by kernel_rfl
noncomputable def tabs163 : Tabs := Tabs.add tabs161 163 ⟨as163, rs163, m163⟩
theorem tabs163OK : TabOK Tryz.prog tabs163 := TabOK.add tabs161OK c163 Tryz.call163
end Go.Proofs.YthfgccfaildmfaaGreatDoor
/-
 Dating: the comparison by which matches are sorted, and the library's sort.
 No conditions.
-/
namespace Go.Proofs
open Go.Shelf
def Tryz.lays162_ren : Go.Shelf.Ren := ⟨fun | 6 => 162 | 15 => 143 | 14 => 192 | 28 => 175 | 29 => 176 | 20 => 213 | 21 => 214 | 22 => 215 | 23 => 216 | 24 => 217 | 25 => 218 | 26 => 219 | 27 => 220 | 46 => 226 | 47 => 194 | 48 => 195 | 49 => 227 | 50 => 228 | 57 => 230 | n => n, fun | 22 => 176 | 24 => 180 | 25 => 212 | 3 => 3 | 39 => 191 | 0 => 0 | 53 => 223 | 55 => 225 | 4 => 4 | 46 => 215 | 45 => 214 | 50 => 220 | 5 => 5 | 9 => 9 | 66 => 240 | 70 => 244 | 76 => 260 | 77 => 153 | n => n, fun | n => n⟩
theorem Tryz.lays162 : Go.Proofs.SlLaysF0.n6 Tryz.prog Tryz.lays162_ren := {
 mixed := by kernel_rfl
 f6 := ⟨Tryz.f162.name, by decide, Tryz.func162.trans (congrArg some (by kernel_rfl))⟩
 f14 := ⟨Tryz.f192.name, by decide, Tryz.func192.trans (congrArg some (by kernel_rfl))⟩
 f15 := Tryz.func143.trans (congrArg some (by kernel_rfl))
 f20 := ⟨Tryz.f213.name, by decide, Tryz.func213.trans (congrArg some (by kernel_rfl))⟩
 f21 := ⟨Tryz.f214.name, by decide, Tryz.func214.trans (congrArg some (by kernel_rfl))⟩
 f22 := ⟨Tryz.f215.name, by decide, Tryz.func215.trans (congrArg some (by kernel_rfl))⟩
 f23 := ⟨Tryz.f216.name, by decide, Tryz.func216.trans (congrArg some (by kernel_rfl))⟩
 f24 := ⟨Tryz.f217.name, by decide, Tryz.func217.trans (congrArg some (by kernel_rfl))⟩
 f25 := ⟨Tryz.f218.name, by decide, Tryz.func218.trans (congrArg some (by kernel_rfl))⟩
 f26 := ⟨Tryz.f219.name, by decide, Tryz.func219.trans (congrArg some (by kernel_rfl))⟩
 f27 := ⟨Tryz.f220.name, by decide, Tryz.func220.trans (congrArg some (by kernel_rfl))⟩
 f28 := Tryz.func175.trans (congrArg some (by kernel_rfl))
 f29 := Tryz.func176.trans (congrArg some (by kernel_rfl))
 f46 := ⟨Tryz.f226.name, by decide, Tryz.func226.trans (congrArg some (by kernel_rfl))⟩
 f47 := Tryz.func194.trans (congrArg some (by kernel_rfl))
 f48 := Tryz.func195.trans (congrArg some (by kernel_rfl))
 f49 := ⟨Tryz.f227.name, by decide, Tryz.func227.trans (congrArg some (by kernel_rfl))⟩
 f50 := ⟨Tryz.f228.name, by decide, Tryz.func228.trans (congrArg some (by kernel_rfl))⟩
 f57 := ⟨Tryz.f230.name, by decide, Tryz.func230.trans (congrArg some (by kernel_rfl))⟩
 t0 := Tryz.underlying0
 a0 := Tryz.isAgg0
 z0 := Tryz.sizeOf0
 v0 := Tryz.zeroValue0
 t3 := Tryz.underlying3
 a3 := Tryz.isAgg3
 z3 := Tryz.sizeOf3
 v3 := Tryz.zeroValue3
 t4 := Tryz.underlying4
 a4 := Tryz.isAgg4
 z4 := Tryz.sizeOf4
 v4 := Tryz.zeroValue4
 t5 := Tryz.underlying5
 a5 := Tryz.isAgg5
 z5 := Tryz.sizeOf5
 v5 := Tryz.zeroValue5
 t9 := Tryz.underlying9
 a9 := Tryz.isAgg9
 z9 := Tryz.sizeOf9
 v9 := Tryz.zeroValue9
 t22 := Tryz.underlying176
 a22 := Tryz.isAgg176
 z22 := Tryz.sizeOf176
 v22 := Tryz.zeroValue176
 t25 := Tryz.underlying212
 a25 := Tryz.isAgg212
 z25 := Tryz.sizeOf212
 v25 := Tryz.zeroValue212
 t39 := Tryz.underlying191
 a39 := Tryz.isAgg191
 z39 := Tryz.sizeOf191
 v39 := Tryz.zeroValue191
 t45 := Tryz.underlying214
 a45 := Tryz.isAgg214
 z45 := Tryz.sizeOf214
 v45 := Tryz.zeroValue214
 t46 := Tryz.underlying215
 a46 := Tryz.isAgg215
 z46 := Tryz.sizeOf215
 v46 := Tryz.zeroValue215
 t50 := Tryz.underlying220
 a50 := Tryz.isAgg220
 z50 := Tryz.sizeOf220
 v50 := Tryz.zeroValue220
 t53 := Tryz.underlying223
 a53 := Tryz.isAgg223
 z53 := Tryz.sizeOf223
 v53 := Tryz.zeroValue223
 t55 := Tryz.underlying225
 a55 := Tryz.isAgg225
 z55 := Tryz.sizeOf225
 v55 := Tryz.zeroValue225
 t66 := Tryz.underlying240
 a66 := Tryz.isAgg240
 z66 := Tryz.sizeOf240
 v66 := Tryz.zeroValue240
 t70 := Tryz.underlying244
 a70 := Tryz.isAgg244
 z70 := Tryz.sizeOf244
 v70 := Tryz.zeroValue244
 t76 := Tryz.underlying260
 a76 := Tryz.isAgg260
 z76 := Tryz.sizeOf260
 v76 := Tryz.zeroValue260
 t77 := Tryz.underlying153
 a77 := Tryz.isAgg153
 z77 := Tryz.sizeOf153
 v77 := Tryz.zeroValue153 }
end Go.Proofs
namespace Go.Proofs.YthfgccfaildmfaaGreatDoor
open Go Go.Abs Go.PE Go.Sort
open Go.Proofs (ltOf)
theorem m164_two (a b : Int) : m164 [a, b] = some (if a = 0 then b else a) := by
 unfold m164
 rw [loopM_eq]
 show Option.bind (Option.bind (bif PE.notM (eqM a 0) then some (Sum.inr (Sum.inr a)) else some (Sum.inl (1 : Int))) (Sum.elim (loopM _) some)) _ = _
 by_cases h1 : a = 0
 ·have n1 : eqM a 0 = true := decide_eq_true h1
  rw [n1, if_pos h1]
  show Option.bind (loopM _ (1 : Int)) _ = _
  rw [loopM_eq]
  show Option.bind (Option.bind (bif PE.notM (eqM b 0) then some (Sum.inr (Sum.inr b)) else some (Sum.inl (2 : Int))) (Sum.elim (loopM _) some)) _ = _
  by_cases h2 : b = 0
  ·have n2 : eqM b 0 = true := decide_eq_true h2
   rw [n2, h2]
   show Option.bind (loopM _ (2 : Int)) _ = _
   rw [loopM_eq]
   rfl
  ·have n2 : eqM b 0 = false := decide_eq_false h2
   rw [n2]
   rfl
 ·have n1 : eqM a 0 = false := decide_eq_false h1
  rw [n1, if_neg h1]
  rfl
def cf163 (x y : Int × Int) : Int := if cmpI x.2 y.2 = 0 then cmpI x.1 y.1 else cmpI x.2 y.2
theorem hm163 (x y : Int × Int) : m163 (x, y) = some (cf163 x y) := by
 unfold m163 cf163
 dsimp only
 rw [m157_eq, m157_eq, Option.bind_some, Option.bind_some, m164_two]
 rfl
theorem lt163 (x y : Int × Int) : ltOf cf163 x y = decide (x.2 < y.2 ∨ (x.2 = y.2 ∧ x.1 < y.1)) := by
 unfold ltOf cf163 cmpI
 rcases Int.lt_trichotomy x.2 y.2 with h | h | h
 ·simp [h]
 ·rcases Int.lt_trichotomy x.1 y.1 with g | g | g
  ·simp [h, g]
  ·simp [h, g]
  ·have : ¬ x.1 < y.1 := by omega
   simp [h, g, this]
 ·have h1 : ¬ x.2 < y.2 := by omega
  have h2 : ¬ x.2 = y.2 := by omega
  simp [h, h1, h2]
theorem swo163 : SWO (ltOf cf163) where
 irrefl x := by rw [lt163]; simp
 trans x y z h1 h2 := by
  rw [lt163] at *
  have h1 := of_decide_eq_true h1
  have h2 := of_decide_eq_true h2
  exact decide_eq_true (by omega)
 ntrans x y z h1 h2 := by
  rw [lt163] at *
  have h1 := of_decide_eq_false h1
  have h2 := of_decide_eq_false h2
  exact decide_eq_false (by omega)
end Go.Proofs.YthfgccfaildmfaaGreatDoor
namespace Go.Proofs.YthfgccfaildmfaaGreatDoor
open Go Go.Abs Go.PE Go.Proofs
theorem sort163 : SortOK Tryz.prog ⟨162, 163, (.pair tI tI), sortM (.pair tI tI) cf163⟩ := sortOK_of (t := (.pair tI tI)) (cf := cf163) Tryz.lays162 rfl rfl rfl Tryz.isAgg180 Tryz.sizeOf180 Tryz.call162 Tryz.call163 c163 hm163 swo163
noncomputable def tabsS163 : Tabs := Tabs.addSo tabs163 ⟨162, 163, (.pair tI tI), sortM (.pair tI tI) cf163⟩
theorem tabsS163OK : TabOK Tryz.prog tabsS163 := TabOK.addSo tabs163OK sort163
end Go.Proofs.YthfgccfaildmfaaGreatDoor
/-
 Models of the functions of this seat, and that the functions compute them (printed by gen_models.py). No conditions.
-/
namespace Go.Proofs.YthfgccfaildmfaaGreatDoor
open Go Go.Abs Go.PE Go.Proofs
set_option linter.unusedVariables false
set_option maxRecDepth 100000

/-! putlog/ring.Match -/
def as120 : List Ty := [(.pair tI (.list tI)), (.list tI)]
def rs120 : List Ty := [(.list (.pair tI tI)), tI]
noncomputable def an120 : Ann := .seq (.a) (.seq (.a) (.seq (.a) (.seq (.seq (.a) (.block (.loop ⟨[(6,.r (.c (.h 1))),(7,.r (.c (.d (.d tI))))],(ra 16 25 ([])),[],[.arr (.pair tI tI)]⟩ [(.exit 0,⟨[(6,.r (.c (.h 1)))],(7::ra 16 25 ([])),[],[.arr (.pair tI tI)]⟩)] (.a)))) (.a))))
noncomputable def m120 : ((Int × List Int) × List Int) → Option ((List (Int × Int)) × Int) :=
 fun (x : (Int × List Int) × List Int) => Option.bind (m159 (x.1.1, x.1.2)) fun (r : Bool) => Option.bind (bif PE.notM (PE.notM r) then m160 x.2 else some false)
 fun (r_1 : Bool) => bif PE.orM (PE.notM r) (PE.notM r_1) then some ([], (210 : Int)) else Option.bind (loopM (fun (s : Int × List (Int × Int)) => bif leM
 (IntKind.wrap IntKind.i64 (s.1 + lenM x.2)) (lenM x.1.2) then Option.bind (sliceM x.1.2 s.1 (IntKind.wrap IntKind.i64 (s.1 + lenM x.2))) fun (r_2 : List Int)
 => Option.bind (m161 (x.2, r_2)) fun (r_3 : Int) => Option.bind (appM (nat_lit 16) s.2 [(s.1, r_3)]) fun (r : List (Int × Int)) => some (Sum.inl (IntKind.wrap
 IntKind.i64 (s.1 + (1 : Int)), r)) else some (Sum.inr s.2)) ((0 : Int), [])) fun (o : List (Int × Int)) => Option.bind (sortM (Ty.pair (Ty.int IntKind.i64)
 (Ty.int IntKind.i64)) cf163 o) fun (r : List (Int × Int)) => some (r, (0 : Int))
theorem c120 : SpecOK Tryz.prog 120 ⟨as120, rs120, m120⟩ :=
 fc tabsS163OK [] an120 Tryz.f120 fun x => by kernel_rfl
noncomputable def tabs120 : Tabs := Tabs.add tabsS163 120 ⟨as120, rs120, m120⟩
theorem tabs120OK : TabOK Tryz.prog tabs120 := TabOK.add tabsS163OK c120 Tryz.call120

/-! putlog/ring.Dated -/
def as71 : List Ty := [(.pair tI (.list tI)), (.list tI), tI]
def rs71 : List Ty := [tI, .bool, tI]
noncomputable def an71 : Ann := .seq (.a) (.seq (.a) (.seq (.a) (.seq (.seq (.reg [0,1,3,7,15,31,63,127,255,511,1023,2047,255,4351,12543,28927,65535,255,262143,524287,1048575] (ra 0 21 ([])) (za 21 ([])) (.a)) (.a)) (.seq (.reg [0,1,0,4,12,28,63,127,255,511] (ra 0 10 ([])) (z0::.s [0] []::za 8 ([])) (.a)) (.a)))))
noncomputable def m71 : ((Int × List Int) × List Int × Int) → Option (Int × Bool × Int) :=
 fun (x : (Int × List Int) × List Int × Int) => Option.bind (m120 ((x.1.1, x.1.2), x.2.1)) fun (r : List (Int × Int) × Int) => Option.bind (bif PE.notM (PE.notM
 (eqM r.2 (0 : Int))) then m121 (x.2.2, (1 : Int), (60 : Int)) else some false) fun (r_1 : Bool) => bif PE.orM (PE.notM (eqM r.2 (0 : Int))) (PE.notM r_1) then
 some ((0 : Int), false, (210 : Int)) else Option.bind (bif PE.andM (PE.notM (eqM (lenM r.1) (0 : Int))) (ltM (1 : Int) (lenM r.1)) then idxM r.1 (1 : Int)
 else some ((0 : Int), (0 : Int))) fun (r_2 : Int × Int) => Option.bind (bif PE.andM (PE.notM (eqM (lenM r.1) (0 : Int))) (ltM (1 : Int) (lenM r.1)) then idxM
 r.1 (0 : Int) else some ((0 : Int), (0 : Int))) fun (r_3 : Int × Int) => bif PE.orM (eqM (lenM r.1) (0 : Int)) (PE.andM (ltM (1 : Int) (lenM r.1)) (ltM
 (IntKind.wrap IntKind.i64 (r_2.2 - r_3.2)) x.2.2)) then some ((0 : Int), false, (0 : Int)) else Option.bind (idxM r.1 (0 : Int)) fun (r : Int × Int) => some
 (IntKind.wrap IntKind.i64 (x.1.1 + r.1), true, (0 : Int))
theorem c71 : SpecOK Tryz.prog 71 ⟨as71, rs71, m71⟩ :=
 fc tabs120OK [] an71 Tryz.f71 fun x => by kernel_rfl
noncomputable def tabs71 : Tabs := Tabs.add tabs120 71 ⟨as71, rs71, m71⟩
theorem tabs71OK : TabOK Tryz.prog tabs71 := TabOK.add tabs120OK c71 Tryz.call71

/-! putlog/ring.Felled -/
def as72 : List Ty := [tI, tI, .bool]
def rs72 : List Ty := [(.pair tI tI), tI]
noncomputable def an72 : Ann := .seq (.a) (.seq (.a) (.seq (.a) (.seq (.join [(.norm,⟨[(8,.r (.c (.d (.d tI)))),(9,.r (.c (.d (.d tI))))],(ra 21 16 ([])),[],[]⟩)] (.a)) (.a))))
noncomputable def m72 : (Int × Int × Bool) → Option ((Int × Int) × Int) :=
 fun (x : Int × Int × Bool) => Option.bind (m121 (x.1, (0 : Int), (2100 : Int))) fun (r : Bool) => Option.bind (bif PE.notM (PE.notM r) then m121 (x.2.1, (0 :
 Int), (41 : Int)) else some false) fun (r_1 : Bool) => bif PE.orM (PE.notM r) (PE.notM r_1) then some (((0 : Int), (0 : Int)), (210 : Int)) else Option.bind
 (bif x.2.2 then some (x.1, x.1) else bif eqM x.2.1 (0 : Int) then some (IntKind.wrap IntKind.i64 (x.1 + (9 : Int)), (2100 : Int)) else some (IntKind.wrap
 IntKind.i64 (x.1 + max (0 : Int) (IntKind.wrap IntKind.i64 ((9 : Int) - x.2.1))), IntKind.wrap IntKind.i64 (IntKind.wrap IntKind.i64 (x.1 + (41 : Int)) -
 x.2.1))) fun (o : Int × Int) => bif ltM (min o.2 (2100 : Int)) o.1 then some (((0 : Int), (0 : Int)), (210 : Int)) else some ((o.1, IntKind.wrap IntKind.i64
 (min o.2 (2100 : Int) + (1 : Int))), (0 : Int))
theorem c72 : SpecOK Tryz.prog 72 ⟨as72, rs72, m72⟩ :=
 fc tabs71OK [] an72 Tryz.f72 fun x => by kernel_rfl
noncomputable def tabs72 : Tabs := Tabs.add tabs71 72 ⟨as72, rs72, m72⟩
theorem tabs72OK : TabOK Tryz.prog tabs72 := TabOK.add tabs71OK c72 Tryz.call72

/-! putlog/dating.Timber -/
def as32 : List Ty := [(.pair tI (.list tI)), (.list tI), tI, tI, .bool, tI]
def rs32 : List Ty := [(.pair tI (.pair tI (.pair tI (.pair tI tI)))), tI]
noncomputable def an32 : Ann := .a
noncomputable def m32 : ((Int × List Int) × List Int × Int × Int × Bool × Int) → Option ((Int × Int × Int × Int × Int) × Int) :=
 fun (x : (Int × List Int) × List Int × Int × Int × Bool × Int) => Option.bind (m71 ((x.1.1, x.1.2), x.2.1, x.2.2.1)) fun (r : Int × Bool × Int) => Option.bind
 (bif PE.notM (PE.orM (PE.notM (eqM r.2.2 (0 : Int))) (PE.notM r.2.1)) then m54 (x.2.2.2.2.2, (0 : Int), (7 : Int)) else some false) fun (r_1 : Bool) => bif
 PE.orM (PE.orM (PE.notM (eqM r.2.2 (0 : Int))) (PE.notM r.2.1)) (PE.notM r_1) then some (((0 : Int), (0 : Int), (0 : Int), (0 : Int), (0 : Int)), (220 : Int))
 else Option.bind (m72 (IntKind.wrap IntKind.i64 (IntKind.wrap IntKind.i64 (r.1 + lenM x.2.1) - (1 : Int)), x.2.2.2.1, x.2.2.2.2.1)) fun (r : (Int × Int) ×
 Int) => bif PE.notM (eqM r.2 (0 : Int)) then some (((0 : Int), (0 : Int), (0 : Int), (0 : Int), (0 : Int)), (220 : Int)) else some (((1 : Int), x.2.2.2.2.2,
 (0 : Int), r.1.1, min (IntKind.wrap IntKind.i64 (r.1.2 + (2 : Int))) (2101 : Int)), (0 : Int))
theorem c32 : SpecOK Tryz.prog 32 ⟨as32, rs32, m32⟩ :=
 fc tabs72OK [] an32 Tryz.f32 fun x => by kernel_rfl
noncomputable def tabs32 : Tabs := Tabs.add tabs72 32 ⟨as32, rs32, m32⟩
theorem tabs32OK : TabOK Tryz.prog tabs32 := TabOK.add tabs72OK c32 Tryz.call32

/-! putlog/putlogref20.SameSpells -/
def as73 : List Ty := [(.list (.pair tI tI)), (.list (.pair tI tI))]
def rs73 : List Ty := [.bool]
noncomputable def an73 : Ann := .seq (.a) (.seq (.a) (.seq (.seq (.a) (.block (.loop ⟨[(5,.r (.c (.d (.d tI))))],(ra 11 15 ([])),[],[]⟩ [(.exit 0,⟨[],(5::ra 11 15 ([])),[],[]⟩),(.ret,⟨[(4,.r (.c (.d (.d .bool))))],(5::ra 11 15 ([])),[],[]⟩)] (.seq (.a) (.seq (.block (.seq (.reg [0,0,3,7,0,0,48,112,255] (ra 0 9 ([])) (za 9 ([])) (.a)) (.a))) (.a)))))) (.a)))
noncomputable def m73 : ((List (Int × Int)) × List (Int × Int)) → Option (Bool) :=
 fun (x : List (Int × Int) × List (Int × Int)) => bif PE.notM (eqM (lenM x.1) (lenM x.2)) then some false else Option.bind (loopM (fun (s : Int) => bif ltM s
 (lenM x.1) then Option.bind (idxM x.1 s) fun (r : Int × Int) => Option.bind (idxM x.2 s) fun (r_1 : Int × Int) => bif PE.notM (PE.andM (eqM r.1 r_1.1) (eqM
 r.2 r_1.2)) then some (Sum.inr (Sum.inr false)) else some (Sum.inl (IntKind.wrap IntKind.i64 (s + (1 : Int)))) else some (Sum.inr (Sum.inl ()))) (0 : Int))
 fun (o : Unit ⊕ Bool) => Sum.elim (fun (t : Unit) => some true) (fun (t : Bool) => some t) o
theorem c73 : SpecOK Tryz.prog 73 ⟨as73, rs73, m73⟩ :=
 fc tabs32OK [] an73 Tryz.f73 fun x => by kernel_rfl
noncomputable def tabs73 : Tabs := Tabs.add tabs32 73 ⟨as73, rs73, m73⟩
theorem tabs73OK : TabOK Tryz.prog tabs73 := TabOK.add tabs32OK c73 Tryz.call73

/-! putlog/putlogref22.SameSpells -/
def as33 : List Ty := [(.list (.pair tI tI)), (.list (.pair tI tI))]
def rs33 : List Ty := [.bool]
noncomputable def an33 : Ann := .a
noncomputable def m33 : ((List (Int × Int)) × List (Int × Int)) → Option (Bool) :=
 fun (x : List (Int × Int) × List (Int × Int)) => Option.bind (m73 (x.1, x.2)) fun (r : Bool) => some r
theorem c33 : SpecOK Tryz.prog 33 ⟨as33, rs33, m33⟩ :=
 fc tabs73OK [] an33 Tryz.f33 fun x => by kernel_rfl
noncomputable def tabs33 : Tabs := Tabs.add tabs73 33 ⟨as33, rs33, m33⟩
theorem tabs33OK : TabOK Tryz.prog tabs33 := TabOK.add tabs73OK c33 Tryz.call33

/-! putlog/putlogref09.Ints -/
def as74 : List Ty := [(.list tI), (.list tI)]
def rs74 : List Ty := [.bool]
noncomputable def an74 : Ann := .seq (.a) (.seq (.a) (.seq (.seq (.a) (.block (.loop ⟨[(5,.r (.c (.d (.d tI))))],(ra 11 15 ([])),[],[]⟩ [(.exit 0,⟨[],(5::ra 11 15 ([])),[],[]⟩),(.ret,⟨[(4,.r (.c (.d (.d .bool))))],(5::ra 11 15 ([])),[],[]⟩)] (.seq (.a) (.seq (.block (.seq (.reg [0,0,3,7,0,0,48,112,255] (ra 0 9 ([])) (za 9 ([])) (.a)) (.a))) (.a)))))) (.a)))
noncomputable def m74 : (List Int × List Int) → Option (Bool) :=
 fun (x : List Int × List Int) => bif PE.notM (eqM (lenM x.1) (lenM x.2)) then some false else Option.bind (loopM (fun (s : Int) => bif ltM s (lenM x.1) then
 Option.bind (idxM x.1 s) fun (r : Int) => Option.bind (idxM x.2 s) fun (r_1 : Int) => bif PE.notM (eqM r r_1) then some (Sum.inr (Sum.inr false)) else some
 (Sum.inl (IntKind.wrap IntKind.i64 (s + (1 : Int)))) else some (Sum.inr (Sum.inl ()))) (0 : Int)) fun (o : Unit ⊕ Bool) => Sum.elim (fun (t : Unit) => some
 true) (fun (t : Bool) => some t) o
theorem c74 : SpecOK Tryz.prog 74 ⟨as74, rs74, m74⟩ :=
 fc tabs33OK [] an74 Tryz.f74 fun x => by kernel_rfl
noncomputable def tabs74 : Tabs := Tabs.add tabs33 74 ⟨as74, rs74, m74⟩
theorem tabs74OK : TabOK Tryz.prog tabs74 := TabOK.add tabs33OK c74 Tryz.call74

/-! putlog/putlogref22.Ints -/
def as34 : List Ty := [(.list tI), (.list tI)]
def rs34 : List Ty := [.bool]
noncomputable def an34 : Ann := .a
noncomputable def m34 : (List Int × List Int) → Option (Bool) :=
 fun (x : List Int × List Int) => Option.bind (m74 (x.1, x.2)) fun (r : Bool) => some r
theorem c34 : SpecOK Tryz.prog 34 ⟨as34, rs34, m34⟩ :=
 fc tabs74OK [] an34 Tryz.f34 fun x => by kernel_rfl
noncomputable def tabs34 : Tabs := Tabs.add tabs74 34 ⟨as34, rs34, m34⟩
theorem tabs34OK : TabOK Tryz.prog tabs34 := TabOK.add tabs74OK c34 Tryz.call34

/-! putlog/between.follow -/
def as105 : List Ty := [(.pair tI (.list (.pair tI (.pair tI tI)))), tI, (.list tI)]
def rs105 : List Ty := [tI, tI, .bool]
noncomputable def an105 : Ann := .seq (.a) (.seq (.a) (.seq (.seq (.a) (.block (.loop ⟨[(1,.r (.c (.d (.d tI)))),(9,.r (.c (.d (.d tI)))),(14,.r (.c (.d (.d tI))))],(11::ra 15 35 ([])),[],[]⟩ [(.exit 0,⟨[(1,.r (.c (.d (.d tI)))),(9,.r (.c (.d (.d tI))))],(11::ra 14 36 ([])),[],[]⟩),(.ret,⟨[(6,.r (.c (.d (.d tI)))),(7,.r (.c (.d (.d tI)))),(8,.r (.c (.d (.d .bool))))],(1::9::11::ra 14 36 ([])),[],[]⟩)] (.seq (.a) (.seq (.a) (.seq (.block (.seq (.a) (.seq (.a) (.reg [0,1,0,7,15,31,0,0,128,0,896,1920,3968,8128,63,32767] (ra 0 16 ([])) (z0::.s [0] []::za 6 (.s [0] []::za 7 ([]))) (.a))))) (.a))))))) (.a)))
noncomputable def m105 : ((Int × List (Int × Int × Int)) × Int × List Int) → Option (Int × Int × Bool) :=
 fun (x : (Int × List (Int × Int × Int)) × Int × List Int) => Option.bind (loopM (fun (s : Int × Int × Int) => bif ltM s.2.2 (lenM x.2.2) then Option.bind (idxM
 x.2.2 s.2.2) fun (r : Int) => Option.bind (m98 (r, (0 : Int), IntKind.wrap IntKind.i64 (lenM x.1.2 - (1 : Int)))) fun (r_1 : Bool) => Option.bind (bif PE.notM
 (PE.notM r_1) then idxM x.1.2 r else some ((0 : Int), (0 : Int), (0 : Int))) fun (r_2 : Int × Int × Int) => bif PE.orM (PE.notM r_1) (PE.notM (eqM r_2.1 s.1))
 then some (Sum.inr (Sum.inr ((0 : Int), (0 : Int), false))) else Option.bind (idxM x.1.2 r) fun (r_3 : Int × Int × Int) => Option.bind (idxM x.1.2 r) fun (r :
 Int × Int × Int) => some (Sum.inl (r_3.2.1, IntKind.wrap IntKind.i64 (s.2.1 + r.2.2), IntKind.wrap IntKind.i64 (s.2.2 + (1 : Int)))) else some (Sum.inr
 (Sum.inl (s.1, s.2.1)))) (x.2.1, (0 : Int), (0 : Int))) fun (o : Int × Int ⊕ Int × Int × Bool) => Sum.elim (fun (t : Int × Int) => some (t.1, t.2, leM (lenM
 x.2.2) (60 : Int))) (fun (t : Int × Int × Bool) => some (t.1, t.2.1, t.2.2)) o
theorem c105 : SpecOK Tryz.prog 105 ⟨as105, rs105, m105⟩ :=
 fc tabs34OK [] an105 Tryz.f105 fun x => by kernel_rfl
noncomputable def tabs105 : Tabs := Tabs.add tabs34 105 ⟨as105, rs105, m105⟩
theorem tabs105OK : TabOK Tryz.prog tabs105 := TabOK.add tabs34OK c105 Tryz.call105

/-! putlog/between.CheckChain -/
def as66 : List Ty := [(.pair tI (.list (.pair tI (.pair tI tI)))), (.pair tI (.pair tI tI)), (.list tI)]
def rs66 : List Ty := [.bool]
noncomputable def an66 : Ann := .a
noncomputable def m66 : ((Int × List (Int × Int × Int)) × (Int × Int × Int) × List Int) → Option (Bool) :=
 fun (x : (Int × List (Int × Int × Int)) × (Int × Int × Int) × List Int) => Option.bind (m64 (x.1.1, x.1.2)) fun (r : Bool) => Option.bind (bif PE.notM (PE.notM
 r) then m102 (x.1.1, x.2.1.1, x.2.1.2.1, x.2.1.2.2) else some false) fun (r_1 : Bool) => bif PE.orM (PE.notM r) (PE.notM r_1) then some false else Option.bind
 (m105 ((x.1.1, x.1.2), x.2.1.1, x.2.2)) fun (r : Int × Int × Bool) => some (PE.andM (PE.andM r.2.2 (eqM r.1 x.2.1.2.1)) (leM r.2.1 x.2.1.2.2))
theorem c66 : SpecOK Tryz.prog 66 ⟨as66, rs66, m66⟩ :=
 fc tabs105OK [] an66 Tryz.f66 fun x => by kernel_rfl
noncomputable def tabs66 : Tabs := Tabs.add tabs105 66 ⟨as66, rs66, m66⟩
theorem tabs66OK : TabOK Tryz.prog tabs66 := TabOK.add tabs105OK c66 Tryz.call66

/-! putlog/dating.Check -/
def as26 : List Ty := [(.pair (.pair tI (.list (.pair tI tI))) (.list (.pair tI (.pair tI (.pair tI (.pair tI tI)))))), tI, tI, tI, (.list tI)]
def rs26 : List Ty := [.bool]
noncomputable def an26 : Ann := .a
noncomputable def m26 : (((Int × List (Int × Int)) × List (Int × Int × Int × Int × Int)) × Int × Int × Int × List Int) → Option (Bool) :=
 fun (x : ((Int × List (Int × Int)) × List (Int × Int × Int × Int × Int)) × Int × Int × Int × List Int) => Option.bind (m62 (((x.1.1.1, x.1.1.2), x.1.2), x.2.1,
 x.2.2.1, x.2.2.2.1)) fun (r : (Int × List (Int × Int × Int)) × (Int × Int × Int) × Bool) => Option.bind (bif r.2.2 then m66 ((r.1.1, r.1.2), (r.2.1.1,
 r.2.1.2.1, r.2.1.2.2), x.2.2.2.2) else some false) fun (r_1 : Bool) => some (PE.andM r.2.2 r_1)
theorem c26 : SpecOK Tryz.prog 26 ⟨as26, rs26, m26⟩ :=
 fc tabs66OK [] an26 Tryz.f26 fun x => by kernel_rfl
noncomputable def tabs26 : Tabs := Tabs.add tabs66 26 ⟨as26, rs26, m26⟩
theorem tabs26OK : TabOK Tryz.prog tabs26 := TabOK.add tabs66OK c26 Tryz.call26

/-! putlog/dating.Allowed$1 -/
def as53 : List Ty := [tI]
def rs53 : List Ty := [.bool]
noncomputable def an53 : Ann := .a
noncomputable def m53 : Int → Option (Bool) :=
 fun (x : Int) => Option.bind (m54 (x, (0 : Int), (2100 : Int))) fun (r : Bool) => some (PE.notM r)
theorem c53 : SpecOK Tryz.prog 53 ⟨as53, rs53, m53⟩ :=
 fc tabs26OK [] an53 Tryz.f53 fun x => by kernel_rfl
noncomputable def tabs53 : Tabs := Tabs.add tabs26 53 ⟨as53, rs53, m53⟩
theorem tabs53OK : TabOK Tryz.prog tabs53 := TabOK.add tabs26OK c53 Tryz.call53

/-! putlog/between.Allowed$1 -/
def as97 : List Ty := [tI]
def rs97 : List Ty := [.bool]
noncomputable def an97 : Ann := .a
noncomputable def m97 : Int → Option (Bool) :=
 fun (x : Int) => Option.bind (m98 (x, (-1000000000000 : Int), (1000000000000 : Int))) fun (r : Bool) => some (PE.notM r)
theorem c97 : SpecOK Tryz.prog 97 ⟨as97, rs97, m97⟩ :=
 fc tabs53OK [] an97 Tryz.f97 fun x => by kernel_rfl
noncomputable def tabs97 : Tabs := Tabs.add tabs53 97 ⟨as97, rs97, m97⟩
theorem tabs97OK : TabOK Tryz.prog tabs97 := TabOK.add tabs53OK c97 Tryz.call97

/-! putlog/between.Allowed -/
def as56 : List Ty := [(.pair tI (.list (.pair tI (.pair tI tI)))), (.list tI)]
def rs56 : List Ty := [.bool]
noncomputable def an56 : Ann := .seq (.a) (.seq (.a) (.seq (.seq (.reg [] [] [.s [0] [],z0,z0,z0,.s [1] [],z0,z0,.s [0] [],z0,z0,z0,.s [1] [],z0,.r,z0] (.call [] [(.norm,⟨[(19,.r (.c (.d (.d .bool))))],[],[],[]⟩)] (.seq (.a) (.seq (.reg [] [] [z0,z0,.r,z0,z0] (.call [] [(.norm,⟨[(7,.r (.c (.d (.d tI))))],[],[],[]⟩)] (.seq (.a) (.seq (.seq (.a) (.block (.loop ⟨[(8,.r (.c (.d (.d tI))))],(5::ra 9 8 (18::[])),[],[]⟩ [(.exit 0,⟨[],(5::ra 8 9 (18::[])),[],[]⟩),(.ret,⟨[(4,.r (.c (.d (.d tI))))],(5::ra 8 11 ([])),[],[]⟩)] (.a)))) (.a))) (.a))) (.a))) (.a))) (.a)) (.seq (.reg [] [] [z0,.s [0] [],z0,.r,z0,z0] (.call [] [] (.seq (.a) (.seq (.reg [] [] [z0,z0,.r,z0,z0] (.call [] [(.norm,⟨[(7,.r (.c (.d (.d tI))))],[],[],[]⟩)] (.seq (.a) (.seq (.seq (.a) (.block (.loop ⟨[(8,.r (.c (.d (.d tI))))],(5::ra 9 8 (18::[])),[],[]⟩ [(.exit 0,⟨[],(5::ra 8 9 (18::[])),[],[]⟩),(.ret,⟨[(4,.r (.c (.d (.d tI))))],(5::ra 8 11 ([])),[],[]⟩)] (.seq (.a) (.seq (.a) (.seq (.block (.seq (.a) (.seq (.reg [] [] [z0,z0,z0,z0,z0,.r] (.call [] [] (.seq (.a) (.seq (.reg [0,0,2,7,15,0,0,64,224,480,1023,0,2048,8191,16383] (ra 0 15 ([])) (.s [1] []::z0::.s [2] []::z0::z0::.s [1] []::z0::.s [2] []::za 4 (.s [2] []::z0::z0::[])) (.a)) (.a))) (.a))) (.a)))) (.a))))))) (.a))) (.a))) (.a))) (.a))) (.a))))
noncomputable def m56 : ((Int × List (Int × Int × Int)) × List Int) → Option (Bool) :=
 fun (x : (Int × List (Int × Int × Int)) × List Int) => Option.bind (m64 (x.1.1, x.1.2)) fun (r : Bool) => Option.bind (bif PE.notM (PE.orM (PE.notM r) (PE.notM
 (eqM (lenM x.2) x.1.1))) then Option.bind (Option.bind (loopM (fun (s : Int) => bif ltM s (lenM x.2) then Option.bind (idxM x.2 s) fun (r_1 : Int) =>
 Option.bind (m97 r_1) fun (r : Bool) => bif r then some (Sum.inr (Sum.inr s)) else some (Sum.inl (IntKind.wrap IntKind.i64 (s + (1 : Int)))) else some
 (Sum.inr (Sum.inl ()))) (0 : Int)) fun (o : Unit ⊕ Int) => Sum.elim (fun (t : Unit) => some (-1 : Int)) (fun (t : Int) => some t) o) fun (ov : Int) => some
 (leM (0 : Int) ov) else some false) fun (ov : Bool) => bif PE.orM (PE.orM (PE.notM r) (PE.notM (eqM (lenM x.2) x.1.1))) ov then some false else Option.bind
 (Option.bind (loopM (fun (s : Int) => bif ltM s (lenM x.1.2) then Option.bind (idxM x.1.2 s) fun (r_1 : Int × Int × Int) => Option.bind (idxM x.2 r_1.2.1) fun
 (r_2 : Int) => Option.bind (idxM x.2 r_1.1) fun (r : Int) => bif ltM r_1.2.2 (IntKind.wrap IntKind.i64 (r_2 - r)) then some (Sum.inr (Sum.inr s)) else some
 (Sum.inl (IntKind.wrap IntKind.i64 (s + (1 : Int)))) else some (Sum.inr (Sum.inl ()))) (0 : Int)) fun (o : Unit ⊕ Int) => Sum.elim (fun (t : Unit) => some (-1
 : Int)) (fun (t : Int) => some t) o) fun (ov : Int) => some (PE.notM (leM (0 : Int) ov))
theorem c56 : SpecOK Tryz.prog 56 ⟨as56, rs56, m56⟩ :=
 fc tabs97OK [] an56 Tryz.f56 fun x => by kernel_rfl
noncomputable def tabs56 : Tabs := Tabs.add tabs97 56 ⟨as56, rs56, m56⟩
theorem tabs56OK : TabOK Tryz.prog tabs56 := TabOK.add tabs97OK c56 Tryz.call56

/-! putlog/dating.Allowed -/
def as18 : List Ty := [(.pair (.pair tI (.list (.pair tI tI))) (.list (.pair tI (.pair tI (.pair tI (.pair tI tI)))))), (.list tI)]
def rs18 : List Ty := [.bool]
noncomputable def an18 : Ann := .seq (.a) (.seq (.a) (.seq (.a) (.seq (.reg [0,1,3,7,15,7,39,103,255,511,1023,2047,2047,8191,16383,32767,65535,131071,131071,393215,131071,1966079,4194303,8388607,16777215] (ra 0 25 ([])) [z0,z0,z0,z0,z0,z0,z0,.s [0] [],z0,z0,z0,z0,z0,.r,z0,z0,z0,.s [1] [],z0,.s [] [2],z0,.s [2] [3,2],.s [3] [],z0,z0] (.gs (.gq z0 (.gq z0 (.gq z0 (.gq z0 (.gq (.s [0] []) (.gq z0 (.gs (.gq z0 (.gq z0 (.gq (.r) (.call [] [] (.seq (.a) (.seq (.reg [] [] [z0,z0,.r,z0,z0] (.call [] [(.norm,⟨[(7,.r (.c (.d (.d tI))))],[],[],[]⟩)] (.seq (.a) (.seq (.seq (.a) (.block (.loop ⟨[(8,.r (.c (.d (.d tI))))],(5::ra 9 8 (18::[])),[],[]⟩ [(.exit 0,⟨[],(5::ra 8 9 (18::[])),[],[]⟩),(.ret,⟨[(4,.r (.c (.d (.d tI))))],(5::ra 8 11 ([])),[],[]⟩)] (.a)))) (.a))) (.a))) (.a))) (.gq z0 (.gs (.gq (.s [1] []) (.gq z0 (.gq (.s [] [2]) (.gq z0 (.gq (.s [2] [3,2]) (.gq (.s [3] []) (.a) (.a)) (.a)) (.a)) (.a)) (.a)) (.a)) (.gq (.s [1] []) (.a) (.gq z0 (.a) (.gq (.s [] [2]) (.a) (.gq z0 (.a) (.gq (.s [2] [3,2]) (.a) (.gq (.s [3] []) (.a) (.a)))))))) (.a))) (.a)) (.a)) (.a)) (.gq z0 (.a) (.gq z0 (.a) (.gq (.r) (.a) (.gq z0 (.a) (.gq (.s [1] []) (.a) (.gq z0 (.a) (.gq (.s [] [2]) (.a) (.gq z0 (.a) (.gq (.s [2] [3,2]) (.a) (.gq (.s [3] []) (.a) (.a)))))))))))) (.a)) (.a)) (.a)) (.a)) (.a)) (.a)) (.gq z0 (.a) (.gq z0 (.a) (.gq z0 (.a) (.gq z0 (.a) (.gq (.s [0] []) (.a) (.gq z0 (.a) (.gq z0 (.a) (.gq z0 (.a) (.gq (.r) (.a) (.gq z0 (.a) (.gq (.s [1] []) (.a) (.gq z0 (.a) (.gq (.s [] [2]) (.a) (.gq z0 (.a) (.gq (.s [2] [3,2]) (.a) (.gq (.s [3] []) (.a) (.a))))))))))))))))))) (.a))))
noncomputable def m18 : (((Int × List (Int × Int)) × List (Int × Int × Int × Int × Int)) × List Int) → Option (Bool) :=
 fun (x : ((Int × List (Int × Int)) × List (Int × Int × Int × Int × Int)) × List Int) => Option.bind (m24 ((x.1.1.1, x.1.1.2), x.1.2)) fun (r : (Int × List (Int
 × Int × Int)) × Int) => bif eqM r.2 (0 : Int) then bif PE.andM true (eqM (lenM x.2) x.1.1.1) then Option.bind (Option.bind (loopM (fun (s : Int) => bif ltM s
 (lenM x.2) then Option.bind (idxM x.2 s) fun (r_1 : Int) => Option.bind (m53 r_1) fun (r : Bool) => bif r then some (Sum.inr (Sum.inr s)) else some (Sum.inl
 (IntKind.wrap IntKind.i64 (s + (1 : Int)))) else some (Sum.inr (Sum.inl ()))) (0 : Int)) fun (o : Unit ⊕ Int) => Sum.elim (fun (t : Unit) => some (-1 : Int))
 (fun (t : Int) => some t) o) fun (ov : Int) => bif PE.andM true (PE.notM (leM (0 : Int) ov)) then Option.bind (mo57 x.2) fun (r_1 : List Int) => Option.bind
 (appM (nat_lit 8) r_1 [(0 : Int)]) fun (r_2 : List Int) => Option.bind (m56 ((r.1.1, r.1.2), r_2)) fun (r : Bool) => some (PE.andM true r) else some false
 else some false else some false
theorem c18 : SpecOK Tryz.prog 18 ⟨as18, rs18, m18⟩ :=
 fc (TabOK.drop tabs56OK [57]) [] an18 Tryz.f18 fun x => by kernel_rfl
noncomputable def tabs18 : Tabs := Tabs.add tabs56 18 ⟨as18, rs18, m18⟩
theorem tabs18OK : TabOK Tryz.prog tabs18 := TabOK.add tabs56OK c18 Tryz.call18

/-! putlog/putloglaw22.sane -/
def as10 : List Ty := []
def rs10 : List Ty := [.bool]
noncomputable def an10 : Ann := .seq (.a) (.seq (.a) (.seq (.reg [0,1,0,4,12,31,0,127] (ra 0 8 ([])) [z0,.s [0] [],z0,.s [0] [],z0,z0,.s [] [1],.s [1] [1]] (.a)) (.seq (.reg [0,1,0,0,8,28,0,64,252,511,0,2047] (ra 0 12 ([])) [z0,.s [0] [],z0,z0,.s [0] [],.s [] [2],z0,z0,.s [2] [3,2],z0,.s [] [4],.s [4,3] [4]] (.a)) (.a))))
noncomputable def m10 : Unit → Option (Bool) :=
 fun (x : Unit) => Option.bind (sliceM [((2 : Int), (0 : Int), (0 : Int), (1320 : Int), (0 : Int)), ((1 : Int), (2 : Int), (0 : Int), (1300 : Int), (1341 :
 Int)), ((5 : Int), (0 : Int), (1 : Int), (5 : Int), (200 : Int))] (0 : Int) (2 : Int)) fun (r : List (Int × Int × Int × Int × Int)) => Option.bind (appM
 (nat_lit 40) [] [((2 : Int), (0 : Int), (0 : Int), (1320 : Int), (0 : Int)), ((1 : Int), (2 : Int), (0 : Int), (1300 : Int), (1341 : Int)), ((5 : Int), (0 :
 Int), (1 : Int), (5 : Int), (200 : Int))]) fun (r_1 : List (Int × Int × Int × Int × Int)) => Option.bind (appM (nat_lit 40) r_1 [((3 : Int), (1 : Int), (0 :
 Int), (1324 : Int), (0 : Int))]) fun (r_2 : List (Int × Int × Int × Int × Int)) => Option.bind (m17 (((3 : Int), [((0 : Int), (1 : Int)), ((1 : Int), (2 :
 Int))]), [((2 : Int), (0 : Int), (0 : Int), (1320 : Int), (0 : Int)), ((1 : Int), (2 : Int), (0 : Int), (1300 : Int), (1341 : Int)), ((5 : Int), (0 : Int), (1
 : Int), (5 : Int), (200 : Int))])) fun (r_3 : List (Int × Int) × Int) => Option.bind (m17 (((3 : Int), [((0 : Int), (1 : Int)), ((1 : Int), (2 : Int))]), r))
 fun (r_4 : List (Int × Int) × Int) => Option.bind (m17 (((3 : Int), [((0 : Int), (1 : Int)), ((1 : Int), (2 : Int))]), r_2)) fun (r_5 : List (Int × Int) ×
 Int) => Option.bind (m23 ((((3 : Int), [((0 : Int), (1 : Int)), ((1 : Int), (2 : Int))]), [((2 : Int), (0 : Int), (0 : Int), (1320 : Int), (0 : Int)), ((1 :
 Int), (2 : Int), (0 : Int), (1300 : Int), (1341 : Int)), ((5 : Int), (0 : Int), (1 : Int), (5 : Int), (200 : Int))]), (0 : Int), (2 : Int), (5 : Int))) fun
 (r_6 : List Int × Bool) => Option.bind (m23 ((((3 : Int), [((0 : Int), (1 : Int)), ((1 : Int), (2 : Int))]), [((2 : Int), (0 : Int), (0 : Int), (1320 : Int),
 (0 : Int)), ((1 : Int), (2 : Int), (0 : Int), (1300 : Int), (1341 : Int)), ((5 : Int), (0 : Int), (1 : Int), (5 : Int), (200 : Int))]), (0 : Int), (2 : Int),
 (6 : Int))) fun (r_7 : List Int × Bool) => Option.bind (m16 (((3 : Int), [((0 : Int), (1 : Int)), ((1 : Int), (2 : Int))]), r_2)) fun (r_8 : List Int × Bool)
 => Option.bind (m16 (((3 : Int), [((0 : Int), (1 : Int)), ((1 : Int), (2 : Int))]), [((2 : Int), (0 : Int), (0 : Int), (1320 : Int), (0 : Int)), ((1 : Int),
 (2 : Int), (0 : Int), (1300 : Int), (1341 : Int)), ((5 : Int), (0 : Int), (1 : Int), (5 : Int), (200 : Int))])) fun (r_9 : List Int × Bool) => Option.bind
 (m24 (((3 : Int), [((0 : Int), (1 : Int)), ((1 : Int), (2 : Int))]), [((2 : Int), (0 : Int), (0 : Int), (1320 : Int), (0 : Int)), ((1 : Int), (2 : Int), (0 :
 Int), (1300 : Int), (1341 : Int)), ((5 : Int), (0 : Int), (1 : Int), (5 : Int), (200 : Int))])) fun (r_10 : (Int × List (Int × Int × Int)) × Int) =>
 Option.bind (m31 (((800001 : Int), (2 : Int)), [], ((0 : Int), (0 : Int), (0 : Int), (0 : Int), (0 : Int), (1340 : Int), (-1 : Int)), (2 : Int))) fun (r_11 :
 (Int × Int × Int × Int × Int) × Int) => Option.bind (m32 (((1400 : Int), [(10 : Int), (12 : Int), (11 : Int), (15 : Int), (14 : Int), (13 : Int), (16 : Int),
 (18 : Int), (12 : Int)]), [(11 : Int), (15 : Int), (14 : Int), (13 : Int), (16 : Int), (18 : Int)], (1 : Int), (0 : Int), true, (1 : Int))) fun (r_12 : (Int ×
 Int × Int × Int × Int) × Int) => Option.bind (m32 (((1400 : Int), [(10 : Int), (12 : Int), (11 : Int), (15 : Int), (14 : Int), (13 : Int), (16 : Int), (18 :
 Int), (12 : Int)]), [(11 : Int), (15 : Int), (14 : Int), (13 : Int), (16 : Int), (18 : Int)], (40 : Int), (0 : Int), true, (9 : Int))) fun (r_13 : (Int × Int
 × Int × Int × Int) × Int) => bif PE.orM (PE.orM (PE.orM (PE.orM (PE.orM (PE.orM (PE.orM (PE.orM (PE.orM (PE.orM (PE.notM (eqM r_3.2 (0 : Int))) (PE.notM (eqM
 r_4.2 (0 : Int)))) (PE.notM (eqM r_5.2 (220 : Int)))) (PE.notM (eqM r_10.2 (0 : Int)))) (PE.notM (eqM r_11.2 (0 : Int)))) (PE.notM (eqM r_12.2 (0 : Int))))
 (PE.notM (eqM r_13.2 (220 : Int)))) (PE.notM r_6.2)) r_7.2) (PE.notM r_8.2)) r_9.2 then some false else Option.bind (m33 (r_3.1, [((1320 : Int), (1336 :
 Int)), ((1325 : Int), (1341 : Int)), ((1325 : Int), (1341 : Int))])) fun (r_14 : Bool) => Option.bind (bif r_14 then m33 (r_4.1, [((1320 : Int), (1341 :
 Int)), ((1320 : Int), (1341 : Int)), ((1320 : Int), (1341 : Int))]) else some false) fun (r_15 : Bool) => Option.bind (m34 (r_6.1, [(13 : Int), (11 : Int)]))
 fun (r_16 : Bool) => Option.bind (bif r_16 then m26 ((((3 : Int), [((0 : Int), (1 : Int)), ((1 : Int), (2 : Int))]), [((2 : Int), (0 : Int), (0 : Int), (1320
 : Int), (0 : Int)), ((1 : Int), (2 : Int), (0 : Int), (1300 : Int), (1341 : Int)), ((5 : Int), (0 : Int), (1 : Int), (5 : Int), (200 : Int))]), (0 : Int), (2
 : Int), (5 : Int), r_6.1) else some false) fun (r_17 : Bool) => Option.bind (bif PE.andM r_16 r_17 then m26 ((((3 : Int), [((0 : Int), (1 : Int)), ((1 : Int),
 (2 : Int))]), [((2 : Int), (0 : Int), (0 : Int), (1320 : Int), (0 : Int)), ((1 : Int), (2 : Int), (0 : Int), (1300 : Int), (1341 : Int)), ((5 : Int), (0 :
 Int), (1 : Int), (5 : Int), (200 : Int))]), (0 : Int), (2 : Int), (6 : Int), r_6.1) else some false) fun (r_18 : Bool) => Option.bind (bif PE.andM (PE.andM
 r_16 r_17) (PE.notM r_18) then m34 (r_8.1, [(0 : Int), (2 : Int), (3 : Int)]) else some false) fun (r_19 : Bool) => Option.bind (bif PE.andM (PE.andM (PE.andM
 r_14 r_15) (PE.andM (PE.andM (PE.andM (PE.andM (PE.andM r_16 r_17) (PE.notM r_18)) r_19) (eqM r_10.1.1 (4 : Int))) (eqM (lenM r_10.1.2) (14 : Int)))) (PE.andM
 (PE.andM (eqM r_11.1.1 (1 : Int)) (PE.andM (eqM r_11.1.2.1 (2 : Int)) (PE.andM (eqM r_11.1.2.2.1 (0 : Int)) (PE.andM (eqM r_11.1.2.2.2.1 (1340 : Int)) (eqM
 r_11.1.2.2.2.2 (1342 : Int)))))) (PE.andM (eqM r_12.1.1 (1 : Int)) (PE.andM (eqM r_12.1.2.1 (1 : Int)) (PE.andM (eqM r_12.1.2.2.1 (0 : Int)) (PE.andM (eqM
 r_12.1.2.2.2.1 (1407 : Int)) (eqM r_12.1.2.2.2.2 (1410 : Int))))))) then m20 (((3 : Int), [((0 : Int), (1 : Int)), ((1 : Int), (2 : Int))]), [((2 : Int), (0 :
 Int), (0 : Int), (1320 : Int), (0 : Int)), ((1 : Int), (2 : Int), (0 : Int), (1300 : Int), (1341 : Int)), ((5 : Int), (0 : Int), (1 : Int), (5 : Int), (200 :
 Int))]) else some false) fun (r_20 : Bool) => Option.bind (bif PE.andM (PE.andM (PE.andM (PE.andM r_14 r_15) (PE.andM (PE.andM (PE.andM (PE.andM (PE.andM r_16
 r_17) (PE.notM r_18)) r_19) (eqM r_10.1.1 (4 : Int))) (eqM (lenM r_10.1.2) (14 : Int)))) (PE.andM (PE.andM (eqM r_11.1.1 (1 : Int)) (PE.andM (eqM r_11.1.2.1
 (2 : Int)) (PE.andM (eqM r_11.1.2.2.1 (0 : Int)) (PE.andM (eqM r_11.1.2.2.2.1 (1340 : Int)) (eqM r_11.1.2.2.2.2 (1342 : Int)))))) (PE.andM (eqM r_12.1.1 (1 :
 Int)) (PE.andM (eqM r_12.1.2.1 (1 : Int)) (PE.andM (eqM r_12.1.2.2.1 (0 : Int)) (PE.andM (eqM r_12.1.2.2.2.1 (1407 : Int)) (eqM r_12.1.2.2.2.2 (1410 :
 Int)))))))) r_20 then m20 (((9 : Int), []), []) else some false) fun (r_21 : Bool) => Option.bind (bif PE.andM (PE.andM (PE.andM (PE.andM (PE.andM r_14 r_15)
 (PE.andM (PE.andM (PE.andM (PE.andM (PE.andM r_16 r_17) (PE.notM r_18)) r_19) (eqM r_10.1.1 (4 : Int))) (eqM (lenM r_10.1.2) (14 : Int)))) (PE.andM (PE.andM
 (eqM r_11.1.1 (1 : Int)) (PE.andM (eqM r_11.1.2.1 (2 : Int)) (PE.andM (eqM r_11.1.2.2.1 (0 : Int)) (PE.andM (eqM r_11.1.2.2.2.1 (1340 : Int)) (eqM
 r_11.1.2.2.2.2 (1342 : Int)))))) (PE.andM (eqM r_12.1.1 (1 : Int)) (PE.andM (eqM r_12.1.2.1 (1 : Int)) (PE.andM (eqM r_12.1.2.2.1 (0 : Int)) (PE.andM (eqM
 r_12.1.2.2.2.1 (1407 : Int)) (eqM r_12.1.2.2.2.2 (1410 : Int)))))))) r_20) (PE.notM r_21) then m18 ((((3 : Int), [((0 : Int), (1 : Int)), ((1 : Int), (2 :
 Int))]), [((2 : Int), (0 : Int), (0 : Int), (1320 : Int), (0 : Int)), ((1 : Int), (2 : Int), (0 : Int), (1300 : Int), (1341 : Int)), ((5 : Int), (0 : Int), (1
 : Int), (5 : Int), (200 : Int))]), [(1320 : Int), (1325 : Int), (1340 : Int)]) else some false) fun (r_22 : Bool) => Option.bind (bif PE.andM (PE.andM
 (PE.andM (PE.andM (PE.andM (PE.andM r_14 r_15) (PE.andM (PE.andM (PE.andM (PE.andM (PE.andM r_16 r_17) (PE.notM r_18)) r_19) (eqM r_10.1.1 (4 : Int))) (eqM
 (lenM r_10.1.2) (14 : Int)))) (PE.andM (PE.andM (eqM r_11.1.1 (1 : Int)) (PE.andM (eqM r_11.1.2.1 (2 : Int)) (PE.andM (eqM r_11.1.2.2.1 (0 : Int)) (PE.andM
 (eqM r_11.1.2.2.2.1 (1340 : Int)) (eqM r_11.1.2.2.2.2 (1342 : Int)))))) (PE.andM (eqM r_12.1.1 (1 : Int)) (PE.andM (eqM r_12.1.2.1 (1 : Int)) (PE.andM (eqM
 r_12.1.2.2.1 (0 : Int)) (PE.andM (eqM r_12.1.2.2.2.1 (1407 : Int)) (eqM r_12.1.2.2.2.2 (1410 : Int)))))))) r_20) (PE.notM r_21)) r_22 then m18 ((((3 : Int),
 [((0 : Int), (1 : Int)), ((1 : Int), (2 : Int))]), [((2 : Int), (0 : Int), (0 : Int), (1320 : Int), (0 : Int)), ((1 : Int), (2 : Int), (0 : Int), (1300 :
 Int), (1341 : Int)), ((5 : Int), (0 : Int), (1 : Int), (5 : Int), (200 : Int))]), [(1320 : Int), (1324 : Int), (1340 : Int)]) else some false) fun (r : Bool)
 => some (PE.andM (PE.andM (PE.andM (PE.andM (PE.andM (PE.andM (PE.andM r_14 r_15) (PE.andM (PE.andM (PE.andM (PE.andM (PE.andM r_16 r_17) (PE.notM r_18))
 r_19) (eqM r_10.1.1 (4 : Int))) (eqM (lenM r_10.1.2) (14 : Int)))) (PE.andM (PE.andM (eqM r_11.1.1 (1 : Int)) (PE.andM (eqM r_11.1.2.1 (2 : Int)) (PE.andM
 (eqM r_11.1.2.2.1 (0 : Int)) (PE.andM (eqM r_11.1.2.2.2.1 (1340 : Int)) (eqM r_11.1.2.2.2.2 (1342 : Int)))))) (PE.andM (eqM r_12.1.1 (1 : Int)) (PE.andM (eqM
 r_12.1.2.1 (1 : Int)) (PE.andM (eqM r_12.1.2.2.1 (0 : Int)) (PE.andM (eqM r_12.1.2.2.2.1 (1407 : Int)) (eqM r_12.1.2.2.2.2 (1410 : Int)))))))) r_20) (PE.notM
 r_21)) r_22) (PE.notM r))
theorem c10 : SpecOK Tryz.prog 10 ⟨as10, rs10, m10⟩ :=
 fc tabs18OK [] an10 Tryz.f10 fun x => by kernel_rfl
noncomputable def tabs10 : Tabs := Tabs.add tabs18 10 ⟨as10, rs10, m10⟩
theorem tabs10OK : TabOK Tryz.prog tabs10 := TabOK.add tabs18OK c10 Tryz.call10

/-! putlog/putlogref15.pick -/
def as86 : List Ty := [tI, tI]
def rs86 : List Ty := [tI]
noncomputable def an86 : Ann := .seq (.a) (.seq (.join [(.norm,⟨[(0,.r (.c (.d (.d tI))))],[5,6,7,8,9],[],[]⟩)] (.a)) (.a))
noncomputable def m86 : (Int × Int) → Option (Int) :=
 fun (x : Int × Int) => Option.bind (bif ltM x.1 (0 : Int) then some (IntKind.wrap IntKind.i64 (negM (IntKind.wrap IntKind.i64 (x.1 + (1 : Int))))) else some
 x.1) fun (o : Int) => Option.bind (remM o x.2) fun (r : Int) => some r
theorem c86 : SpecOK Tryz.prog 86 ⟨as86, rs86, m86⟩ :=
 fc tabs10OK [] an86 Tryz.f86 fun x => by kernel_rfl
noncomputable def tabs86 : Tabs := Tabs.add tabs10 86 ⟨as86, rs86, m86⟩
theorem tabs86OK : TabOK Tryz.prog tabs86 := TabOK.add tabs10OK c86 Tryz.call86

/-! putlog/putlogref15.Made -/
def as75 : List Ty := [tI, (.list (.pair tI tI)), tI]
def rs75 : List Ty := [(.pair tI (.list (.pair tI tI)))]
noncomputable def an75 : Ann := .seq (.a) (.seq (.reg [] [] [z0,z0,.r,.s [] [4],.s [4,3] [4]] (.call [] [] (.seq (.a) (.seq (.a) (.seq (.seq (.a) (.block (.loop ⟨[(6,.r (.c (.d (.d tI))))],(7::ra 11 45 ([])),[(2,.box [.d (.d tI),.h 3])],[.arr (.pair tI tI)]⟩ [(.exit 0,⟨[],(6::7::ra 11 45 ([])),[(2,.box [.d (.d tI),.h 3])],[.arr (.pair tI tI)]⟩)] (.seq (.a) (.seq (.block (.seq (.reg [0,0,3,7,15,0,32,127,255] (ra 0 9 ([])) (za 6 (.s [2] []::z0::z0::[])) (.a)) (.reg [0,1,0,0,8,0,0,96,224,480,0,1024,3072,8160,16376,0,32768,131064,262140,524284,1048575,2097151,4194303] (ra 0 23 ([])) (z0::.s [2] []::za 9 (.s [2] []::za 4 (.s [2] []::za 3 (.s [3] [4,3]::z0::.s [2,4] [2]::[])))) (.a)))) (.a)))))) (.a)))) (.a))) (.seq (.a) (.seq (.a) (.seq (.a) (.seq (.seq (.a) (.block (.loop ⟨[(10,.r (.c (.h 5))),(11,.r (.c (.d (.d tI))))],(ra 20 10 ([])),[],[.arr tI]⟩ [(.exit 0,⟨[(10,.r (.c (.h 5)))],(11::ra 20 10 ([])),[],[.arr tI]⟩)] (.a)))) (.seq (.block (.loop ⟨[(8,.r (.c (.h 6))),(9,.r (.c (.d (.d tI)))),(10,.r (.c (.d (.d (.list tI)))))],(12::ra 30 27 ([])),[(5,.gone)],[.arr tI]⟩ [(.exit 2,⟨[(8,.r (.c (.h 6)))],(9::10::12::ra 30 27 ([])),[(5,.gone)],[.arr tI]⟩)] (.seq (.a) (.block (.seq (.a) (.seq (.a) (.seq (.a) (.reg [0,0,0,7,0,0,32,112,255,511] (ra 0 10 ([])) (za 10 ([])) (.a))))))))) (.seq (.seq (.a) (.block (.loop ⟨[(13,.r (.c (.d (.d tI))))],(14::ra 57 32 ([])),[(3,.arr (.pair tI tI))],[]⟩ [(.exit 4,⟨[],(13::14::ra 57 32 ([])),[(3,.arr (.pair tI tI))],[]⟩)] (.seq (.a) (.seq (.join [(.norm,⟨[],(14::ra 64 25 ([])),[(3,.arr (.pair tI tI))],[]⟩)] (.block (.seq (.a) (.seq (.reg [0,0,2,7,15,0,0,64,224,480,1023] (ra 0 11 ([])) [z0,z0,.s [7] [],.s [6] [],.s [6] [],z0,z0,.s [7] [],.s [6] [],.s [6] [],z0] (.a)) (.a))))) (.a)))))) (.a))))))))
noncomputable def m75 : (Int × (List (Int × Int)) × Int) → Option (Int × List (Int × Int)) :=
 fun (x : Int × List (Int × Int) × Int) => Option.bind (m86 (x.1, (9 : Int))) fun (r : Int) => Option.bind (loopM (fun (s : Int × Int × List (Int × Int)) => bif
 PE.andM (PE.andM (ltM s.1 (lenM x.2.1)) (ltM s.1 (20 : Int))) (ltM (1 : Int) s.2.1) then Option.bind (idxM x.2.1 s.1) fun (r_1 : Int × Int) => Option.bind
 (m86 (r_1.1, s.2.1)) fun (r_2 : Int) => Option.bind (idxM x.2.1 s.1) fun (r_3 : Int × Int) => Option.bind (m86 (r_3.2, IntKind.wrap IntKind.i64 (s.2.1 - (1 :
 Int)))) fun (r_4 : Int) => Option.bind (remM (IntKind.wrap IntKind.i64 (IntKind.wrap IntKind.i64 (r_2 + (1 : Int)) + r_4)) s.2.1) fun (r_5 : Int) =>
 Option.bind (appM (nat_lit 16) s.2.2 [(r_2, r_5)]) fun (r : List (Int × Int)) => some (Sum.inl (IntKind.wrap IntKind.i64 (s.1 + (1 : Int)), s.2.1, r)) else
 some (Sum.inr (s.2.1, s.2.2))) ((0 : Int), r, [])) fun (o : Int × List (Int × Int)) => Option.bind (m86 (x.2.2, (40320 : Int))) fun (r_1 : Int) => Option.bind
 (loopM (fun (s : Int × List Int) => bif ltM s.1 o.1 then Option.bind (appM (nat_lit 8) s.2 [s.1]) fun (r : List Int) => some (Sum.inl (IntKind.wrap
 IntKind.i64 (s.1 + (1 : Int)), r)) else some (Sum.inr s.2)) ((0 : Int), [])) fun (o_1 : List Int) => Option.bind (loopM (fun (s : Int × List Int × List Int)
 => bif ltM (0 : Int) (lenM s.2.1) then Option.bind (remM s.1 (lenM s.2.1)) fun (r_2 : Int) => Option.bind (divM IntKind.i64 s.1 (lenM s.2.1)) fun (r_3 : Int)
 => Option.bind (idxM s.2.1 r_2) fun (r_4 : Int) => Option.bind (appM (nat_lit 8) s.2.2 [r_4]) fun (r_5 : List Int) => Option.bind (Option.bind (sameM r_2 r_2)
 fun (x : Unit) => sliceM s.2.1 (0 : Int) r_2) fun (r_6 : List Int) => Option.bind (sliceM s.2.1 (IntKind.wrap IntKind.i64 (r_2 + (1 : Int))) (lenM s.2.1)) fun
 (r_7 : List Int) => Option.bind (appM (nat_lit 8) r_6 r_7) fun (r : List Int) => some (Sum.inl (r_3, r, r_5)) else some (Sum.inr s.2.2)) (r_1, o_1, [])) fun
 (o_2 : List Int) => Option.bind (loopM (fun (s : Int × List (Int × Int)) => bif ltM s.1 (lenM s.2) then Option.bind (Option.bind (chkM s.1 (lenM s.2)) fun
 (r_2 : Unit) => Option.bind (idxM s.2 s.1) fun (r_3 : Int × Int) => Option.bind (chkM r_3.1 (lenM o_2)) fun (r_4 : Unit) => Option.bind (idxM o_2 r_3.1) fun
 (r_5 : Int) => Option.bind (chkM r_3.2 (lenM o_2)) fun (r_6 : Unit) => Option.bind (idxM o_2 r_3.2) fun (r_7 : Int) => bif ltM r_7 r_5 then Option.bind (chkM
 s.1 (lenM s.2)) fun (r_8 : Unit) => Option.bind (setM s.2 s.1 fun (x : Int × Int) => some (r_3.2, r_3.1)) fun (r : List (Int × Int)) => some r else some s.2)
 fun (o : List (Int × Int)) => some (Sum.inl (IntKind.wrap IntKind.i64 (s.1 + (1 : Int)), o)) else some (Sum.inr s.2)) ((0 : Int), o.2)) fun (o_3 : List (Int ×
 Int)) => some (o.1, o_3)
theorem c75 : SpecOK Tryz.prog 75 ⟨as75, rs75, m75⟩ :=
 fc (TabOK.drop tabs86OK [122]) [] an75 Tryz.f75 fun x => by kernel_rfl
noncomputable def tabs75 : Tabs := Tabs.add tabs86 75 ⟨as75, rs75, m75⟩
theorem tabs75OK : TabOK Tryz.prog tabs75 := TabOK.add tabs86OK c75 Tryz.call75

/-! putlog/putlogref22.Order -/
def as35 : List Ty := [(.pair tI (.pair (.list (.pair tI tI)) (.pair tI (.pair tI (.pair (.list tI) (.pair (.list (.pair tI (.pair tI (.pair tI (.pair tI tI))))) (.pair tI (.pair tI tI))))))))]
def rs35 : List Ty := [(.pair tI (.list (.pair tI tI)))]
noncomputable def an35 : Ann := .a
noncomputable def m35 : (Int × (List (Int × Int)) × Int × Int × List Int × (List (Int × Int × Int × Int × Int)) × Int × Int × Int) → Option (Int × List (Int × Int)) :=
 fun (x : Int × List (Int × Int) × Int × Int × List Int × List (Int × Int × Int × Int × Int) × Int × Int × Int) => Option.bind (m75 (x.1, x.2.1, x.2.2.1)) fun (r
 : Int × List (Int × Int)) => some (r.1, r.2)
theorem c35 : SpecOK Tryz.prog 35 ⟨as35, rs35, m35⟩ :=
 fc tabs75OK [] an35 Tryz.f35 fun x => by kernel_rfl
noncomputable def tabs35 : Tabs := Tabs.add tabs75 35 ⟨as35, rs35, m35⟩
theorem tabs35OK : TabOK Tryz.prog tabs35 := TabOK.add tabs75OK c35 Tryz.call35

/-! putlog/putlogref15.Formed -/
def as123 : List Ty := [(.pair tI (.list (.pair tI tI)))]
def rs123 : List Ty := [.bool]
noncomputable def an123 : Ann := .seq (.a) (.seq (.a) (.seq (.seq (.a) (.block (.loop ⟨[(3,.r (.c (.d (.d tI))))],(4::ra 19 41 ([])),[],[]⟩ [(.exit 0,⟨[],(3::4::ra 19 41 ([])),[],[]⟩),(.ret,⟨[(2,.r (.c (.d (.d .bool))))],(3::4::ra 19 41 ([])),[],[]⟩)] (.a)))) (.a)))
noncomputable def m123 : (Int × List (Int × Int)) → Option (Bool) :=
 fun (x : Int × List (Int × Int)) => bif PE.orM (PE.orM (ltM x.1 (0 : Int)) (ltM (8 : Int) x.1)) (ltM (28 : Int) (lenM x.2)) then some false else Option.bind
 (loopM (fun (s : Int) => bif ltM s (lenM x.2) then Option.bind (idxM x.2 s) fun (r : Int × Int) => bif PE.orM (PE.orM (PE.orM (PE.orM (ltM r.1 (0 : Int)) (leM
 x.1 r.1)) (ltM r.2 (0 : Int))) (leM x.1 r.2)) (eqM r.1 r.2) then some (Sum.inr (Sum.inr false)) else some (Sum.inl (IntKind.wrap IntKind.i64 (s + (1 : Int))))
 else some (Sum.inr (Sum.inl ()))) (0 : Int)) fun (o : Unit ⊕ Bool) => Sum.elim (fun (t : Unit) => some true) (fun (t : Bool) => some t) o
theorem c123 : SpecOK Tryz.prog 123 ⟨as123, rs123, m123⟩ :=
 fc tabs35OK [] an123 Tryz.f123 fun x => by kernel_rfl
noncomputable def tabs123 : Tabs := Tabs.add tabs35 123 ⟨as123, rs123, m123⟩
theorem tabs123OK : TabOK Tryz.prog tabs123 := TabOK.add tabs35OK c123 Tryz.call123

/-! putlog/putlogref15.pairs -/
def as124 : List Ty := [(.pair tI (.list (.pair tI tI)))]
def rs124 : List Ty := [(.pair (.pair .bool (.pair .bool (.pair .bool (.pair .bool (.pair .bool (.pair .bool (.pair .bool .bool))))))) (.pair (.pair .bool (.pair .bool (.pair .bool (.pair .bool (.pair .bool (.pair .bool (.pair .bool .bool))))))) (.pair (.pair .bool (.pair .bool (.pair .bool (.pair .bool (.pair .bool (.pair .bool (.pair .bool .bool))))))) (.pair (.pair .bool (.pair .bool (.pair .bool (.pair .bool (.pair .bool (.pair .bool (.pair .bool .bool))))))) (.pair (.pair .bool (.pair .bool (.pair .bool (.pair .bool (.pair .bool (.pair .bool (.pair .bool .bool))))))) (.pair (.pair .bool (.pair .bool (.pair .bool (.pair .bool (.pair .bool (.pair .bool (.pair .bool .bool))))))) (.pair (.pair .bool (.pair .bool (.pair .bool (.pair .bool (.pair .bool (.pair .bool (.pair .bool .bool))))))) (.pair .bool (.pair .bool (.pair .bool (.pair .bool (.pair .bool (.pair .bool (.pair .bool .bool))))))))))))))]
noncomputable def an124 : Ann := .seq (.a) (.seq (.a) (.seq (.seq (.a) (.block (.loop ⟨[(4,.r (.c (.d (.d tI))))],(ra 5 21 ([])),[(2,.flat 64 .bool)],[]⟩ [(.exit 0,⟨[],(ra 4 22 ([])),[(2,.flat 64 .bool)],[]⟩)] (.seq (.a) (.seq (.block (.reg [0,1,0,7,15,31,0,64,0,448,960,1984,63,8191,16383] (ra 0 15 ([])) (z0::.s [0] []::za 5 (.s [0] []::za 4 (.s [2] []::.s [2] []::.s [2] [2]::[]))) (.a))) (.a)))))) (.a)))
noncomputable def m124 : (Int × List (Int × Int)) → Option ((Bool × Bool × Bool × Bool × Bool × Bool × Bool × Bool) × (Bool × Bool × Bool × Bool × Bool × Bool × Bool × Bool) × (Bool × Bool × Bool × Bool × Bool × Bool × Bool × Bool) × (Bool × Bool × Bool × Bool × Bool × Bool × Bool × Bool) × (Bool × Bool × Bool × Bool × Bool × Bool × Bool × Bool) × (Bool × Bool × Bool × Bool × Bool × Bool × Bool × Bool) × (Bool × Bool × Bool × Bool × Bool × Bool × Bool × Bool) × Bool × Bool × Bool × Bool × Bool × Bool × Bool × Bool) :=
 fun (x : Int × List (Int × Int)) => Option.bind (loopM (fun (s : Int × List Bool) => bif ltM s.1 (lenM x.2) then Option.bind (idxM x.2 s.1) fun (r : Int × Int)
 => Option.bind (idxM x.2 s.1) fun (r_1 : Int × Int) => Option.bind (chkM r.1 ↑(nat_lit 8)) fun (r_2 : Unit) => Option.bind (chkM r_1.2 ↑(nat_lit 8)) fun (r_3
 : Unit) => Option.bind (setM s.2 (↑(nat_lit 0) + r.1 * ↑(nat_lit 8) + r_1.2 * ↑(nat_lit 1)) fun (x : Bool) => some true) fun (r : List Bool) => some (Sum.inl
 (IntKind.wrap IntKind.i64 (s.1 + (1 : Int)), r)) else some (Sum.inr s.2)) ((0 : Int), [false, false, false, false, false, false, false, false, false, false,
 false, false, false, false, false, false, false, false, false, false, false, false, false, false, false, false, false, false, false, false, false, false,
 false, false, false, false, false, false, false, false, false, false, false, false, false, false, false, false, false, false, false, false, false, false,
 false, false, false, false, false, false, false, false, false, false])) fun (o : List Bool) => some ((nthD o (nat_lit 0) false, nthD o (nat_lit 1) false, nthD
 o (nat_lit 2) false, nthD o (nat_lit 3) false, nthD o (nat_lit 4) false, nthD o (nat_lit 5) false, nthD o (nat_lit 6) false, nthD o (nat_lit 7) false), (nthD
 o (nat_lit 8) false, nthD o (nat_lit 9) false, nthD o (nat_lit 10) false, nthD o (nat_lit 11) false, nthD o (nat_lit 12) false, nthD o (nat_lit 13) false,
 nthD o (nat_lit 14) false, nthD o (nat_lit 15) false), (nthD o (nat_lit 16) false, nthD o (nat_lit 17) false, nthD o (nat_lit 18) false, nthD o (nat_lit 19)
 false, nthD o (nat_lit 20) false, nthD o (nat_lit 21) false, nthD o (nat_lit 22) false, nthD o (nat_lit 23) false), (nthD o (nat_lit 24) false, nthD o
 (nat_lit 25) false, nthD o (nat_lit 26) false, nthD o (nat_lit 27) false, nthD o (nat_lit 28) false, nthD o (nat_lit 29) false, nthD o (nat_lit 30) false,
 nthD o (nat_lit 31) false), (nthD o (nat_lit 32) false, nthD o (nat_lit 33) false, nthD o (nat_lit 34) false, nthD o (nat_lit 35) false, nthD o (nat_lit 36)
 false, nthD o (nat_lit 37) false, nthD o (nat_lit 38) false, nthD o (nat_lit 39) false), (nthD o (nat_lit 40) false, nthD o (nat_lit 41) false, nthD o
 (nat_lit 42) false, nthD o (nat_lit 43) false, nthD o (nat_lit 44) false, nthD o (nat_lit 45) false, nthD o (nat_lit 46) false, nthD o (nat_lit 47) false),
 (nthD o (nat_lit 48) false, nthD o (nat_lit 49) false, nthD o (nat_lit 50) false, nthD o (nat_lit 51) false, nthD o (nat_lit 52) false, nthD o (nat_lit 53)
 false, nthD o (nat_lit 54) false, nthD o (nat_lit 55) false), nthD o (nat_lit 56) false, nthD o (nat_lit 57) false, nthD o (nat_lit 58) false, nthD o (nat_lit
 59) false, nthD o (nat_lit 60) false, nthD o (nat_lit 61) false, nthD o (nat_lit 62) false, nthD o (nat_lit 63) false)
theorem c124 : SpecOK Tryz.prog 124 ⟨as124, rs124, m124⟩ :=
 fc tabs123OK [] an124 Tryz.f124 fun x => by kernel_rfl
noncomputable def tabs124 : Tabs := Tabs.add tabs123 124 ⟨as124, rs124, m124⟩
theorem tabs124OK : TabOK Tryz.prog tabs124 := TabOK.add tabs123OK c124 Tryz.call124

/-! putlog/putlogref15.before -/
def as77 : List Ty := [(.pair tI (.list (.pair tI tI)))]
def rs77 : List Ty := [(.pair (.pair .bool (.pair .bool (.pair .bool (.pair .bool (.pair .bool (.pair .bool (.pair .bool .bool))))))) (.pair (.pair .bool (.pair .bool (.pair .bool (.pair .bool (.pair .bool (.pair .bool (.pair .bool .bool))))))) (.pair (.pair .bool (.pair .bool (.pair .bool (.pair .bool (.pair .bool (.pair .bool (.pair .bool .bool))))))) (.pair (.pair .bool (.pair .bool (.pair .bool (.pair .bool (.pair .bool (.pair .bool (.pair .bool .bool))))))) (.pair (.pair .bool (.pair .bool (.pair .bool (.pair .bool (.pair .bool (.pair .bool (.pair .bool .bool))))))) (.pair (.pair .bool (.pair .bool (.pair .bool (.pair .bool (.pair .bool (.pair .bool (.pair .bool .bool))))))) (.pair (.pair .bool (.pair .bool (.pair .bool (.pair .bool (.pair .bool (.pair .bool (.pair .bool .bool))))))) (.pair .bool (.pair .bool (.pair .bool (.pair .bool (.pair .bool (.pair .bool (.pair .bool .bool))))))))))))))]
noncomputable def an77 : Ann := .seq (.a) (.seq (.a) (.seq (.seq (.a) (.block (.loop ⟨[(4,.r (.c (.d (.d tI))))],(5::6::ra 9 34 ([])),[(2,.flat 64 .bool)],[]⟩ [(.exit 0,⟨[],(4::5::6::ra 9 34 ([])),[(2,.flat 64 .bool)],[]⟩)] (.seq (.a) (.seq (.block (.seq (.a) (.block (.loop ⟨[(5,.r (.c (.d (.d tI))))],(6::ra 15 28 ([])),[(2,.flat 64 .bool)],[]⟩ [(.exit 2,⟨[],(5::6::ra 15 28 ([])),[(2,.flat 64 .bool)],[]⟩)] (.seq (.a) (.seq (.block (.seq (.a) (.block (.loop ⟨[(6,.r (.c (.d (.d tI))))],(ra 21 22 ([])),[(2,.flat 64 .bool)],[]⟩ [(.exit 4,⟨[],(6::ra 21 22 ([])),[(2,.flat 64 .bool)],[]⟩)] (.seq (.a) (.seq (.join [(.norm,⟨[],(ra 27 16 ([])),[(2,.flat 64 .bool)],[]⟩)] (.a)) (.a))))))) (.a))))))) (.a)))))) (.a)))
noncomputable def m77 : (Int × List (Int × Int)) → Option ((Bool × Bool × Bool × Bool × Bool × Bool × Bool × Bool) × (Bool × Bool × Bool × Bool × Bool × Bool × Bool × Bool) × (Bool × Bool × Bool × Bool × Bool × Bool × Bool × Bool) × (Bool × Bool × Bool × Bool × Bool × Bool × Bool × Bool) × (Bool × Bool × Bool × Bool × Bool × Bool × Bool × Bool) × (Bool × Bool × Bool × Bool × Bool × Bool × Bool × Bool) × (Bool × Bool × Bool × Bool × Bool × Bool × Bool × Bool) × Bool × Bool × Bool × Bool × Bool × Bool × Bool × Bool) :=
 fun (x : Int × List (Int × Int)) => Option.bind (m124 (x.1, x.2)) fun (r : (Bool × Bool × Bool × Bool × Bool × Bool × Bool × Bool) × (Bool × Bool × Bool × Bool
 × Bool × Bool × Bool × Bool) × (Bool × Bool × Bool × Bool × Bool × Bool × Bool × Bool) × (Bool × Bool × Bool × Bool × Bool × Bool × Bool × Bool) × (Bool ×
 Bool × Bool × Bool × Bool × Bool × Bool × Bool) × (Bool × Bool × Bool × Bool × Bool × Bool × Bool × Bool) × (Bool × Bool × Bool × Bool × Bool × Bool × Bool ×
 Bool) × Bool × Bool × Bool × Bool × Bool × Bool × Bool × Bool) => Option.bind (loopM (fun (s : Int × List Bool) => bif ltM s.1 x.1 then Option.bind (loopM
 (fun (s_1 : Int × List Bool) => bif ltM s_1.1 x.1 then Option.bind (loopM (fun (s_2 : Int × List Bool) => bif ltM s_2.1 x.1 then Option.bind (Option.bind
 (chkM s_1.1 ↑(nat_lit 8)) fun (r_1 : Unit) => Option.bind (chkM s.1 ↑(nat_lit 8)) fun (r_2 : Unit) => Option.bind (idxM s_2.2 (↑(nat_lit 0) + s_1.1 *
 ↑(nat_lit 8) + s.1 * ↑(nat_lit 1))) fun (r_3 : Bool) => Option.bind (bif r_3 then chkM s.1 ↑(nat_lit 8) else some ()) fun (r_4 : Unit) => Option.bind (bif r_3
 then chkM s_2.1 ↑(nat_lit 8) else some ()) fun (r_5 : Unit) => Option.bind (bif r_3 then idxM s_2.2 (↑(nat_lit 0) + s.1 * ↑(nat_lit 8) + s_2.1 * ↑(nat_lit 1))
 else some false) fun (r_6 : Bool) => bif PE.andM r_3 r_6 then Option.bind (chkM s_1.1 ↑(nat_lit 8)) fun (r_7 : Unit) => Option.bind (chkM s_2.1 ↑(nat_lit 8))
 fun (r_8 : Unit) => Option.bind (setM s_2.2 (↑(nat_lit 0) + s_1.1 * ↑(nat_lit 8) + s_2.1 * ↑(nat_lit 1)) fun (x : Bool) => some true) fun (r : List Bool) =>
 some r else some s_2.2) fun (o : List Bool) => some (Sum.inl (IntKind.wrap IntKind.i64 (s_2.1 + (1 : Int)), o)) else some (Sum.inr s_2.2)) ((0 : Int), s_1.2))
 fun (o : List Bool) => some (Sum.inl (IntKind.wrap IntKind.i64 (s_1.1 + (1 : Int)), o)) else some (Sum.inr s_1.2)) ((0 : Int), s.2)) fun (o : List Bool) =>
 some (Sum.inl (IntKind.wrap IntKind.i64 (s.1 + (1 : Int)), o)) else some (Sum.inr s.2)) ((0 : Int), [r.1.1, r.1.2.1, r.1.2.2.1, r.1.2.2.2.1, r.1.2.2.2.2.1,
 r.1.2.2.2.2.2.1, r.1.2.2.2.2.2.2.1, r.1.2.2.2.2.2.2.2, r.2.1.1, r.2.1.2.1, r.2.1.2.2.1, r.2.1.2.2.2.1, r.2.1.2.2.2.2.1, r.2.1.2.2.2.2.2.1,
 r.2.1.2.2.2.2.2.2.1, r.2.1.2.2.2.2.2.2.2, r.2.2.1.1, r.2.2.1.2.1, r.2.2.1.2.2.1, r.2.2.1.2.2.2.1, r.2.2.1.2.2.2.2.1, r.2.2.1.2.2.2.2.2.1,
 r.2.2.1.2.2.2.2.2.2.1, r.2.2.1.2.2.2.2.2.2.2, r.2.2.2.1.1, r.2.2.2.1.2.1, r.2.2.2.1.2.2.1, r.2.2.2.1.2.2.2.1, r.2.2.2.1.2.2.2.2.1, r.2.2.2.1.2.2.2.2.2.1,
 r.2.2.2.1.2.2.2.2.2.2.1, r.2.2.2.1.2.2.2.2.2.2.2, r.2.2.2.2.1.1, r.2.2.2.2.1.2.1, r.2.2.2.2.1.2.2.1, r.2.2.2.2.1.2.2.2.1, r.2.2.2.2.1.2.2.2.2.1,
 r.2.2.2.2.1.2.2.2.2.2.1, r.2.2.2.2.1.2.2.2.2.2.2.1, r.2.2.2.2.1.2.2.2.2.2.2.2, r.2.2.2.2.2.1.1, r.2.2.2.2.2.1.2.1, r.2.2.2.2.2.1.2.2.1, r.2.2.2.2.2.1.2.2.2.1,
 r.2.2.2.2.2.1.2.2.2.2.1, r.2.2.2.2.2.1.2.2.2.2.2.1, r.2.2.2.2.2.1.2.2.2.2.2.2.1, r.2.2.2.2.2.1.2.2.2.2.2.2.2, r.2.2.2.2.2.2.1.1, r.2.2.2.2.2.2.1.2.1,
 r.2.2.2.2.2.2.1.2.2.1, r.2.2.2.2.2.2.1.2.2.2.1, r.2.2.2.2.2.2.1.2.2.2.2.1, r.2.2.2.2.2.2.1.2.2.2.2.2.1, r.2.2.2.2.2.2.1.2.2.2.2.2.2.1,
 r.2.2.2.2.2.2.1.2.2.2.2.2.2.2, r.2.2.2.2.2.2.2.1, r.2.2.2.2.2.2.2.2.1, r.2.2.2.2.2.2.2.2.2.1, r.2.2.2.2.2.2.2.2.2.2.1, r.2.2.2.2.2.2.2.2.2.2.2.1,
 r.2.2.2.2.2.2.2.2.2.2.2.2.1, r.2.2.2.2.2.2.2.2.2.2.2.2.2.1, r.2.2.2.2.2.2.2.2.2.2.2.2.2.2])) fun (o : List Bool) => some ((nthD o (nat_lit 0) false, nthD o
 (nat_lit 1) false, nthD o (nat_lit 2) false, nthD o (nat_lit 3) false, nthD o (nat_lit 4) false, nthD o (nat_lit 5) false, nthD o (nat_lit 6) false, nthD o
 (nat_lit 7) false), (nthD o (nat_lit 8) false, nthD o (nat_lit 9) false, nthD o (nat_lit 10) false, nthD o (nat_lit 11) false, nthD o (nat_lit 12) false, nthD
 o (nat_lit 13) false, nthD o (nat_lit 14) false, nthD o (nat_lit 15) false), (nthD o (nat_lit 16) false, nthD o (nat_lit 17) false, nthD o (nat_lit 18) false,
 nthD o (nat_lit 19) false, nthD o (nat_lit 20) false, nthD o (nat_lit 21) false, nthD o (nat_lit 22) false, nthD o (nat_lit 23) false), (nthD o (nat_lit 24)
 false, nthD o (nat_lit 25) false, nthD o (nat_lit 26) false, nthD o (nat_lit 27) false, nthD o (nat_lit 28) false, nthD o (nat_lit 29) false, nthD o (nat_lit
 30) false, nthD o (nat_lit 31) false), (nthD o (nat_lit 32) false, nthD o (nat_lit 33) false, nthD o (nat_lit 34) false, nthD o (nat_lit 35) false, nthD o
 (nat_lit 36) false, nthD o (nat_lit 37) false, nthD o (nat_lit 38) false, nthD o (nat_lit 39) false), (nthD o (nat_lit 40) false, nthD o (nat_lit 41) false,
 nthD o (nat_lit 42) false, nthD o (nat_lit 43) false, nthD o (nat_lit 44) false, nthD o (nat_lit 45) false, nthD o (nat_lit 46) false, nthD o (nat_lit 47)
 false), (nthD o (nat_lit 48) false, nthD o (nat_lit 49) false, nthD o (nat_lit 50) false, nthD o (nat_lit 51) false, nthD o (nat_lit 52) false, nthD o
 (nat_lit 53) false, nthD o (nat_lit 54) false, nthD o (nat_lit 55) false), nthD o (nat_lit 56) false, nthD o (nat_lit 57) false, nthD o (nat_lit 58) false,
 nthD o (nat_lit 59) false, nthD o (nat_lit 60) false, nthD o (nat_lit 61) false, nthD o (nat_lit 62) false, nthD o (nat_lit 63) false)
theorem c77 : SpecOK Tryz.prog 77 ⟨as77, rs77, m77⟩ :=
 fc tabs124OK [] an77 Tryz.f77 fun x => by kernel_rfl
noncomputable def tabs77 : Tabs := Tabs.add tabs124 77 ⟨as77, rs77, m77⟩
theorem tabs77OK : TabOK Tryz.prog tabs77 := TabOK.add tabs124OK c77 Tryz.call77

/-! putlog/putlogref15.Valid -/
def as76 : List Ty := [(.pair tI (.list (.pair tI tI)))]
def rs76 : List Ty := [.bool]
noncomputable def an76 : Ann := .seq (.a) (.seq (.a) (.seq (.a) (.seq (.seq (.a) (.block (.loop ⟨[(4,.r (.c (.d (.d tI))))],(ra 10 11 ([])),[],[]⟩ [(.exit 0,⟨[],(4::ra 10 11 ([])),[],[]⟩),(.ret,⟨[(2,.r (.c (.d (.d .bool))))],(4::ra 10 11 ([])),[],[]⟩)] (.a)))) (.a))))
noncomputable def m76 : (Int × List (Int × Int)) → Option (Bool) :=
 fun (x : Int × List (Int × Int)) => Option.bind (m123 (x.1, x.2)) fun (r : Bool) => bif PE.notM r then some false else Option.bind (m77 (x.1, x.2)) fun (r_1 :
 (Bool × Bool × Bool × Bool × Bool × Bool × Bool × Bool) × (Bool × Bool × Bool × Bool × Bool × Bool × Bool × Bool) × (Bool × Bool × Bool × Bool × Bool × Bool ×
 Bool × Bool) × (Bool × Bool × Bool × Bool × Bool × Bool × Bool × Bool) × (Bool × Bool × Bool × Bool × Bool × Bool × Bool × Bool) × (Bool × Bool × Bool × Bool
 × Bool × Bool × Bool × Bool) × (Bool × Bool × Bool × Bool × Bool × Bool × Bool × Bool) × Bool × Bool × Bool × Bool × Bool × Bool × Bool × Bool) => Option.bind
 (loopM (fun (s : Int) => bif ltM s x.1 then Option.bind (chkM s ↑(nat_lit 8)) fun (r_2 : Unit) => Option.bind (chkM s ↑(nat_lit 8)) fun (r_3 : Unit) =>
 Option.bind (idxM [r_1.1.1, r_1.1.2.1, r_1.1.2.2.1, r_1.1.2.2.2.1, r_1.1.2.2.2.2.1, r_1.1.2.2.2.2.2.1, r_1.1.2.2.2.2.2.2.1, r_1.1.2.2.2.2.2.2.2, r_1.2.1.1,
 r_1.2.1.2.1, r_1.2.1.2.2.1, r_1.2.1.2.2.2.1, r_1.2.1.2.2.2.2.1, r_1.2.1.2.2.2.2.2.1, r_1.2.1.2.2.2.2.2.2.1, r_1.2.1.2.2.2.2.2.2.2, r_1.2.2.1.1, r_1.2.2.1.2.1,
 r_1.2.2.1.2.2.1, r_1.2.2.1.2.2.2.1, r_1.2.2.1.2.2.2.2.1, r_1.2.2.1.2.2.2.2.2.1, r_1.2.2.1.2.2.2.2.2.2.1, r_1.2.2.1.2.2.2.2.2.2.2, r_1.2.2.2.1.1,
 r_1.2.2.2.1.2.1, r_1.2.2.2.1.2.2.1, r_1.2.2.2.1.2.2.2.1, r_1.2.2.2.1.2.2.2.2.1, r_1.2.2.2.1.2.2.2.2.2.1, r_1.2.2.2.1.2.2.2.2.2.2.1, r_1.2.2.2.1.2.2.2.2.2.2.2,
 r_1.2.2.2.2.1.1, r_1.2.2.2.2.1.2.1, r_1.2.2.2.2.1.2.2.1, r_1.2.2.2.2.1.2.2.2.1, r_1.2.2.2.2.1.2.2.2.2.1, r_1.2.2.2.2.1.2.2.2.2.2.1,
 r_1.2.2.2.2.1.2.2.2.2.2.2.1, r_1.2.2.2.2.1.2.2.2.2.2.2.2, r_1.2.2.2.2.2.1.1, r_1.2.2.2.2.2.1.2.1, r_1.2.2.2.2.2.1.2.2.1, r_1.2.2.2.2.2.1.2.2.2.1,
 r_1.2.2.2.2.2.1.2.2.2.2.1, r_1.2.2.2.2.2.1.2.2.2.2.2.1, r_1.2.2.2.2.2.1.2.2.2.2.2.2.1, r_1.2.2.2.2.2.1.2.2.2.2.2.2.2, r_1.2.2.2.2.2.2.1.1,
 r_1.2.2.2.2.2.2.1.2.1, r_1.2.2.2.2.2.2.1.2.2.1, r_1.2.2.2.2.2.2.1.2.2.2.1, r_1.2.2.2.2.2.2.1.2.2.2.2.1, r_1.2.2.2.2.2.2.1.2.2.2.2.2.1,
 r_1.2.2.2.2.2.2.1.2.2.2.2.2.2.1, r_1.2.2.2.2.2.2.1.2.2.2.2.2.2.2, r_1.2.2.2.2.2.2.2.1, r_1.2.2.2.2.2.2.2.2.1, r_1.2.2.2.2.2.2.2.2.2.1,
 r_1.2.2.2.2.2.2.2.2.2.2.1, r_1.2.2.2.2.2.2.2.2.2.2.2.1, r_1.2.2.2.2.2.2.2.2.2.2.2.2.1, r_1.2.2.2.2.2.2.2.2.2.2.2.2.2.1, r_1.2.2.2.2.2.2.2.2.2.2.2.2.2.2]
 (↑(nat_lit 0) + s * ↑(nat_lit 8) + s * ↑(nat_lit 1))) fun (r : Bool) => bif r then some (Sum.inr (Sum.inr false)) else some (Sum.inl (IntKind.wrap IntKind.i64
 (s + (1 : Int)))) else some (Sum.inr (Sum.inl ()))) (0 : Int)) fun (o : Unit ⊕ Bool) => Sum.elim (fun (t : Unit) => some true) (fun (t : Bool) => some t) o
theorem c76 : SpecOK Tryz.prog 76 ⟨as76, rs76, m76⟩ :=
 fc tabs77OK [] an76 Tryz.f76 fun x => by kernel_rfl
noncomputable def tabs76 : Tabs := Tabs.add tabs77 76 ⟨as76, rs76, m76⟩
theorem tabs76OK : TabOK Tryz.prog tabs76 := TabOK.add tabs77OK c76 Tryz.call76

/-! putlog/putlogref15.has -/
def as78 : List Ty := [(.list tI), tI]
def rs78 : List Ty := [.bool]
noncomputable def an78 : Ann := .seq (.a) (.seq (.seq (.a) (.block (.loop ⟨[(5,.r (.c (.d (.d tI))))],(ra 6 12 ([])),[],[]⟩ [(.exit 0,⟨[],(ra 5 13 ([])),[],[]⟩),(.ret,⟨[(4,.r (.c (.d (.d .bool))))],(ra 5 13 ([])),[],[]⟩)] (.a)))) (.a))
noncomputable def m78 : (List Int × Int) → Option (Bool) :=
 fun (x : List Int × Int) => Option.bind (loopM (fun (s : Int) => bif ltM s (lenM x.1) then Option.bind (idxM x.1 s) fun (r : Int) => bif eqM r x.2 then some
 (Sum.inr (Sum.inr true)) else some (Sum.inl (IntKind.wrap IntKind.i64 (s + (1 : Int)))) else some (Sum.inr (Sum.inl ()))) (0 : Int)) fun (o : Unit ⊕ Bool) =>
 Sum.elim (fun (t : Unit) => some false) (fun (t : Bool) => some t) o
theorem c78 : SpecOK Tryz.prog 78 ⟨as78, rs78, m78⟩ :=
 fc tabs76OK [] an78 Tryz.f78 fun x => by kernel_rfl
noncomputable def tabs78 : Tabs := Tabs.add tabs76 78 ⟨as78, rs78, m78⟩
theorem tabs78OK : TabOK Tryz.prog tabs78 := TabOK.add tabs76OK c78 Tryz.call78

/-! putlog/putlogref15.Line -/
def as39 : List Ty := [(.pair tI (.list (.pair tI tI)))]
def rs39 : List Ty := [(.list tI), tI]
noncomputable def an39 : Ann := .seq (.a) (.seq (.a) (.seq (.a) (.seq (.a) (.seq (.block (.loop ⟨[(5,.r (.c (.h 2)))],(6::7::8::ra 14 37 ([])),[],[.arr tI]⟩ [(.exit 0,⟨[(5,.r (.c (.h 2)))],(6::7::8::ra 14 37 ([])),[],[.arr tI]⟩)] (.seq (.a) (.block (.seq (.a) (.block (.loop ⟨[(6,.r (.c (.d (.d tI))))],(7::8::ra 19 28 ([])),[],[]⟩ [(.exit 2,⟨[(5,.r (.c (.h 3)))],(6::7::8::ra 19 32 ([])),[(2,.gone)],[.arr tI]⟩)] (.seq (.a) (.seq (.block (.seq (.a) (.seq (.seq (.a) (.block (.loop ⟨[(7,.r (.c (.d (.d .bool)))),(8,.r (.c (.d (.d tI))))],(ra 29 17 ([])),[],[]⟩ [(.exit 4,⟨[(7,.r (.c (.d (.d .bool))))],(8::ra 29 17 ([])),[],[]⟩)] (.seq (.a) (.seq (.join [(.norm,⟨[(7,.r (.c (.d (.d .bool))))],(ra 35 11 ([])),[],[]⟩)] (.a)) (.a)))))) (.a)))) (.a)))))))))) (.a)))))
noncomputable def m39 : (Int × List (Int × Int)) → Option (List Int × Int) :=
 fun (x : Int × List (Int × Int)) => Option.bind (m76 (x.1, x.2)) fun (r : Bool) => bif PE.notM r then some ([], (150 : Int)) else Option.bind (m77 (x.1, x.2))
 fun (r_1 : (Bool × Bool × Bool × Bool × Bool × Bool × Bool × Bool) × (Bool × Bool × Bool × Bool × Bool × Bool × Bool × Bool) × (Bool × Bool × Bool × Bool ×
 Bool × Bool × Bool × Bool) × (Bool × Bool × Bool × Bool × Bool × Bool × Bool × Bool) × (Bool × Bool × Bool × Bool × Bool × Bool × Bool × Bool) × (Bool × Bool
 × Bool × Bool × Bool × Bool × Bool × Bool) × (Bool × Bool × Bool × Bool × Bool × Bool × Bool × Bool) × Bool × Bool × Bool × Bool × Bool × Bool × Bool × Bool)
 => Option.bind (loopM (fun (s : List Int) => bif ltM (lenM s) x.1 then Option.bind (loopM (fun (s_1 : Int) => bif ltM s_1 x.1 then Option.bind (m78 (s, s_1))
 fun (r_2 : Bool) => Option.bind (loopM (fun (s_2 : Bool × Int) => bif ltM s_2.2 x.1 then Option.bind (Option.bind (chkM s_2.2 ↑(nat_lit 8)) fun (r_3 : Unit)
 => Option.bind (chkM s_1 ↑(nat_lit 8)) fun (r_4 : Unit) => Option.bind (idxM [r_1.1.1, r_1.1.2.1, r_1.1.2.2.1, r_1.1.2.2.2.1, r_1.1.2.2.2.2.1,
 r_1.1.2.2.2.2.2.1, r_1.1.2.2.2.2.2.2.1, r_1.1.2.2.2.2.2.2.2, r_1.2.1.1, r_1.2.1.2.1, r_1.2.1.2.2.1, r_1.2.1.2.2.2.1, r_1.2.1.2.2.2.2.1, r_1.2.1.2.2.2.2.2.1,
 r_1.2.1.2.2.2.2.2.2.1, r_1.2.1.2.2.2.2.2.2.2, r_1.2.2.1.1, r_1.2.2.1.2.1, r_1.2.2.1.2.2.1, r_1.2.2.1.2.2.2.1, r_1.2.2.1.2.2.2.2.1, r_1.2.2.1.2.2.2.2.2.1,
 r_1.2.2.1.2.2.2.2.2.2.1, r_1.2.2.1.2.2.2.2.2.2.2, r_1.2.2.2.1.1, r_1.2.2.2.1.2.1, r_1.2.2.2.1.2.2.1, r_1.2.2.2.1.2.2.2.1, r_1.2.2.2.1.2.2.2.2.1,
 r_1.2.2.2.1.2.2.2.2.2.1, r_1.2.2.2.1.2.2.2.2.2.2.1, r_1.2.2.2.1.2.2.2.2.2.2.2, r_1.2.2.2.2.1.1, r_1.2.2.2.2.1.2.1, r_1.2.2.2.2.1.2.2.1, r_1.2.2.2.2.1.2.2.2.1,
 r_1.2.2.2.2.1.2.2.2.2.1, r_1.2.2.2.2.1.2.2.2.2.2.1, r_1.2.2.2.2.1.2.2.2.2.2.2.1, r_1.2.2.2.2.1.2.2.2.2.2.2.2, r_1.2.2.2.2.2.1.1, r_1.2.2.2.2.2.1.2.1,
 r_1.2.2.2.2.2.1.2.2.1, r_1.2.2.2.2.2.1.2.2.2.1, r_1.2.2.2.2.2.1.2.2.2.2.1, r_1.2.2.2.2.2.1.2.2.2.2.2.1, r_1.2.2.2.2.2.1.2.2.2.2.2.2.1,
 r_1.2.2.2.2.2.1.2.2.2.2.2.2.2, r_1.2.2.2.2.2.2.1.1, r_1.2.2.2.2.2.2.1.2.1, r_1.2.2.2.2.2.2.1.2.2.1, r_1.2.2.2.2.2.2.1.2.2.2.1, r_1.2.2.2.2.2.2.1.2.2.2.2.1,
 r_1.2.2.2.2.2.2.1.2.2.2.2.2.1, r_1.2.2.2.2.2.2.1.2.2.2.2.2.2.1, r_1.2.2.2.2.2.2.1.2.2.2.2.2.2.2, r_1.2.2.2.2.2.2.2.1, r_1.2.2.2.2.2.2.2.2.1,
 r_1.2.2.2.2.2.2.2.2.2.1, r_1.2.2.2.2.2.2.2.2.2.2.1, r_1.2.2.2.2.2.2.2.2.2.2.2.1, r_1.2.2.2.2.2.2.2.2.2.2.2.2.1, r_1.2.2.2.2.2.2.2.2.2.2.2.2.2.1,
 r_1.2.2.2.2.2.2.2.2.2.2.2.2.2.2] (↑(nat_lit 0) + s_2.2 * ↑(nat_lit 8) + s_1 * ↑(nat_lit 1))) fun (r_5 : Bool) => Option.bind (bif r_5 then m78 (s, s_2.2) else
 some false) fun (r : Bool) => bif PE.andM r_5 (PE.notM r) then some false else some s_2.1) fun (o : Bool) => some (Sum.inl (o, IntKind.wrap IntKind.i64 (s_2.2
 + (1 : Int)))) else some (Sum.inr s_2.1)) (PE.notM r_2, (0 : Int))) fun (o : Bool) => bif o then Option.bind (appM (nat_lit 8) s [s_1]) fun (r : List Int) =>
 some (Sum.inr r) else some (Sum.inl (IntKind.wrap IntKind.i64 (s_1 + (1 : Int)))) else some (Sum.inr s)) (0 : Int)) fun (o : List Int) => some (Sum.inl o)
 else some (Sum.inr s)) []) fun (o : List Int) => some (o, (0 : Int))
theorem c39 : SpecOK Tryz.prog 39 ⟨as39, rs39, m39⟩ :=
 fc tabs78OK [] an39 Tryz.f39 fun x => by kernel_rfl
noncomputable def tabs39 : Tabs := Tabs.add tabs78 39 ⟨as39, rs39, m39⟩
theorem tabs39OK : TabOK Tryz.prog tabs39 := TabOK.add tabs78OK c39 Tryz.call39
end Go.Proofs.YthfgccfaildmfaaGreatDoor
/-
 Models of the functions of this seat, and that the functions compute them (printed by gen_models.py). No conditions.
-/
namespace Go.Proofs.YthfgccfaildmfaaGreatDoor
open Go Go.Abs Go.PE Go.Proofs
set_option linter.unusedVariables false
set_option maxRecDepth 100000

/-! putlog/putlogref22.pick -/
def as37 : List Ty := [tI, tI]
def rs37 : List Ty := [tI]
noncomputable def an37 : Ann := .seq (.a) (.seq (.join [(.norm,⟨[(0,.r (.c (.d (.d tI))))],[5,6,7,8,9],[],[]⟩)] (.a)) (.a))
noncomputable def m37 : (Int × Int) → Option (Int) :=
 fun (x : Int × Int) => Option.bind (bif ltM x.1 (0 : Int) then some (IntKind.wrap IntKind.i64 (negM (IntKind.wrap IntKind.i64 (x.1 + (1 : Int))))) else some
 x.1) fun (o : Int) => Option.bind (remM o x.2) fun (r : Int) => some r
theorem c37 : SpecOK Tryz.prog 37 ⟨as37, rs37, m37⟩ :=
 fc tabs39OK [] an37 Tryz.f37 fun x => by kernel_rfl
noncomputable def tabs37 : Tabs := Tabs.add tabs39 37 ⟨as37, rs37, m37⟩
theorem tabs37OK : TabOK Tryz.prog tabs37 := TabOK.add tabs39OK c37 Tryz.call37

/-! putlog/putlogref15.Before -/
def as40 : List Ty := [(.pair tI (.list (.pair tI tI))), tI, tI]
def rs40 : List Ty := [.bool]
noncomputable def an40 : Ann := .a
noncomputable def m40 : ((Int × List (Int × Int)) × Int × Int) → Option (Bool) :=
 fun (x : (Int × List (Int × Int)) × Int × Int) => Option.bind (m76 (x.1.1, x.1.2)) fun (r : Bool) => bif PE.orM (PE.orM (PE.orM (PE.orM (PE.notM r) (ltM x.2.1
 (0 : Int))) (leM x.1.1 x.2.1)) (ltM x.2.2 (0 : Int))) (leM x.1.1 x.2.2) then some false else Option.bind (m77 (x.1.1, x.1.2)) fun (r_1 : (Bool × Bool × Bool ×
 Bool × Bool × Bool × Bool × Bool) × (Bool × Bool × Bool × Bool × Bool × Bool × Bool × Bool) × (Bool × Bool × Bool × Bool × Bool × Bool × Bool × Bool) × (Bool
 × Bool × Bool × Bool × Bool × Bool × Bool × Bool) × (Bool × Bool × Bool × Bool × Bool × Bool × Bool × Bool) × (Bool × Bool × Bool × Bool × Bool × Bool × Bool
 × Bool) × (Bool × Bool × Bool × Bool × Bool × Bool × Bool × Bool) × Bool × Bool × Bool × Bool × Bool × Bool × Bool × Bool) => Option.bind (sliceM [r_1.1.1,
 r_1.1.2.1, r_1.1.2.2.1, r_1.1.2.2.2.1, r_1.1.2.2.2.2.1, r_1.1.2.2.2.2.2.1, r_1.1.2.2.2.2.2.2.1, r_1.1.2.2.2.2.2.2.2, r_1.2.1.1, r_1.2.1.2.1, r_1.2.1.2.2.1,
 r_1.2.1.2.2.2.1, r_1.2.1.2.2.2.2.1, r_1.2.1.2.2.2.2.2.1, r_1.2.1.2.2.2.2.2.2.1, r_1.2.1.2.2.2.2.2.2.2, r_1.2.2.1.1, r_1.2.2.1.2.1, r_1.2.2.1.2.2.1,
 r_1.2.2.1.2.2.2.1, r_1.2.2.1.2.2.2.2.1, r_1.2.2.1.2.2.2.2.2.1, r_1.2.2.1.2.2.2.2.2.2.1, r_1.2.2.1.2.2.2.2.2.2.2, r_1.2.2.2.1.1, r_1.2.2.2.1.2.1,
 r_1.2.2.2.1.2.2.1, r_1.2.2.2.1.2.2.2.1, r_1.2.2.2.1.2.2.2.2.1, r_1.2.2.2.1.2.2.2.2.2.1, r_1.2.2.2.1.2.2.2.2.2.2.1, r_1.2.2.2.1.2.2.2.2.2.2.2, r_1.2.2.2.2.1.1,
 r_1.2.2.2.2.1.2.1, r_1.2.2.2.2.1.2.2.1, r_1.2.2.2.2.1.2.2.2.1, r_1.2.2.2.2.1.2.2.2.2.1, r_1.2.2.2.2.1.2.2.2.2.2.1, r_1.2.2.2.2.1.2.2.2.2.2.2.1,
 r_1.2.2.2.2.1.2.2.2.2.2.2.2, r_1.2.2.2.2.2.1.1, r_1.2.2.2.2.2.1.2.1, r_1.2.2.2.2.2.1.2.2.1, r_1.2.2.2.2.2.1.2.2.2.1, r_1.2.2.2.2.2.1.2.2.2.2.1,
 r_1.2.2.2.2.2.1.2.2.2.2.2.1, r_1.2.2.2.2.2.1.2.2.2.2.2.2.1, r_1.2.2.2.2.2.1.2.2.2.2.2.2.2, r_1.2.2.2.2.2.2.1.1, r_1.2.2.2.2.2.2.1.2.1,
 r_1.2.2.2.2.2.2.1.2.2.1, r_1.2.2.2.2.2.2.1.2.2.2.1, r_1.2.2.2.2.2.2.1.2.2.2.2.1, r_1.2.2.2.2.2.2.1.2.2.2.2.2.1, r_1.2.2.2.2.2.2.1.2.2.2.2.2.2.1,
 r_1.2.2.2.2.2.2.1.2.2.2.2.2.2.2, r_1.2.2.2.2.2.2.2.1, r_1.2.2.2.2.2.2.2.2.1, r_1.2.2.2.2.2.2.2.2.2.1, r_1.2.2.2.2.2.2.2.2.2.2.1, r_1.2.2.2.2.2.2.2.2.2.2.2.1,
 r_1.2.2.2.2.2.2.2.2.2.2.2.2.1, r_1.2.2.2.2.2.2.2.2.2.2.2.2.2.1, r_1.2.2.2.2.2.2.2.2.2.2.2.2.2.2] (x.2.1 * ↑(nat_lit 8)) (x.2.1 * ↑(nat_lit 8) + ↑(nat_lit 8)))
 fun (r_2 : List Bool) => Option.bind (idxM [nthD r_2 (nat_lit 0) false, nthD r_2 (nat_lit 1) false, nthD r_2 (nat_lit 2) false, nthD r_2 (nat_lit 3) false,
 nthD r_2 (nat_lit 4) false, nthD r_2 (nat_lit 5) false, nthD r_2 (nat_lit 6) false, nthD r_2 (nat_lit 7) false] x.2.2) fun (r : Bool) => some r
theorem c40 : SpecOK Tryz.prog 40 ⟨as40, rs40, m40⟩ :=
 fc tabs37OK [] an40 Tryz.f40 fun x => by kernel_rfl
noncomputable def tabs40 : Tabs := Tabs.add tabs37 40 ⟨as40, rs40, m40⟩
theorem tabs40OK : TabOK Tryz.prog tabs40 := TabOK.add tabs37OK c40 Tryz.call40

/-! putlog/putlogref22.Hidden -/
def as12 : List Ty := [(.pair tI (.pair (.list (.pair tI tI)) (.pair tI (.pair tI (.pair (.list tI) (.pair (.list (.pair tI (.pair tI (.pair tI (.pair tI tI))))) (.pair tI (.pair tI tI))))))))]
def rs12 : List Ty := [(.list tI)]
noncomputable def an12 : Ann := .seq (.a) (.seq (.a) (.seq (.a) (.seq (.a) (.seq (.seq (.a) (.block (.loop ⟨[(7,.r (.c (.d (.d tI))))],(8::9::ra 20 54 ([])),[(2,.arr tI)],[]⟩ [(.exit 0,⟨[],(7::8::9::ra 20 54 ([])),[(2,.arr tI)],[]⟩)] (.seq (.a) (.seq (.block (.seq (.a) (.seq (.seq (.a) (.block (.loop ⟨[(8,.r (.c (.d (.d tI)))),(9,.r (.c (.d (.d tI))))],(ra 30 24 ([])),[],[]⟩ [(.exit 2,⟨[(8,.r (.c (.d (.d tI))))],(9::ra 30 24 ([])),[],[]⟩)] (.seq (.a) (.seq (.join [(.norm,⟨[(8,.r (.c (.d (.d tI))))],(ra 35 19 ([])),[],[]⟩)] (.block (.seq (.reg [0,0,0,6,14,0,0,96,224,511] (ra 0 10 ([])) (.s [1] []::za 9 ([])) (.a)) (.a)))) (.a)))))) (.seq (.join [(.norm,⟨[(8,.r (.c (.d (.d tI))))],(ra 54 13 ([])),[],[]⟩)] (.a)) (.a))))) (.a)))))) (.a)))))
noncomputable def m12 : (Int × (List (Int × Int)) × Int × Int × List Int × (List (Int × Int × Int × Int × Int)) × Int × Int × Int) → Option (List Int) :=
 fun (x : Int × List (Int × Int) × Int × Int × List Int × List (Int × Int × Int × Int × Int) × Int × Int × Int) => Option.bind (m35 (x.1, x.2.1, x.2.2.1,
 x.2.2.2.1, x.2.2.2.2.1, x.2.2.2.2.2.1, x.2.2.2.2.2.2.1, x.2.2.2.2.2.2.2.1, x.2.2.2.2.2.2.2.2)) fun (r : Int × List (Int × Int)) => Option.bind (m39 (r.1,
 r.2)) fun (r_1 : List Int × Int) => Option.bind (mkM r.1 r.1 (nat_lit 8) (0 : Int)) fun (r_2 : List Int) => Option.bind (loopM (fun (s : Int × List Int) =>
 bif ltM s.1 (lenM r_1.1) then Option.bind (m37 (x.2.2.2.1, (400 : Int))) fun (r_3 : Int) => Option.bind (loopM (fun (s_1 : Int × Int) => bif ltM s_1.2 s.1
 then Option.bind (Option.bind (idxM r_1.1 s_1.2) fun (r_4 : Int) => Option.bind (idxM r_1.1 s.1) fun (r_5 : Int) => Option.bind (m40 ((r.1, r.2), r_4, r_5))
 fun (r_6 : Bool) => bif r_6 then Option.bind (idxM r_1.1 s_1.2) fun (r_7 : Int) => Option.bind (chkM r_7 (lenM s.2)) fun (r_8 : Unit) => Option.bind (idxM s.2
 r_7) fun (r : Int) => some (max s_1.1 r) else some s_1.1) fun (o : Int) => some (Sum.inl (o, IntKind.wrap IntKind.i64 (s_1.2 + (1 : Int)))) else some (Sum.inr
 s_1.1)) (IntKind.wrap IntKind.i64 ((1000 : Int) + r_3), (0 : Int))) fun (o : Int) => Option.bind (bif ltM s.1 (lenM x.2.2.2.2.1) then Option.bind (idxM
 x.2.2.2.2.1 s.1) fun (r_4 : Int) => Option.bind (m37 (r_4, (40 : Int))) fun (r : Int) => some (IntKind.wrap IntKind.i64 (o + r)) else some o) fun (o_1 : Int)
 => Option.bind (idxM r_1.1 s.1) fun (r_4 : Int) => Option.bind (chkM r_4 (lenM s.2)) fun (r_5 : Unit) => Option.bind (setM s.2 r_4 fun (x : Int) => some o_1)
 fun (r : List Int) => some (Sum.inl (IntKind.wrap IntKind.i64 (s.1 + (1 : Int)), r)) else some (Sum.inr s.2)) ((0 : Int), r_2)) fun (o : List Int) => some o
theorem c12 : SpecOK Tryz.prog 12 ⟨as12, rs12, m12⟩ :=
 fc tabs40OK [] an12 Tryz.f12 fun x => by kernel_rfl
noncomputable def tabs12 : Tabs := Tabs.add tabs40 12 ⟨as12, rs12, m12⟩
theorem tabs12OK : TabOK Tryz.prog tabs12 := TabOK.add tabs40OK c12 Tryz.call12

/-! putlog/putlogref22.in -/
def as38 : List Ty := [tI, tI, tI]
def rs38 : List Ty := [.bool]
noncomputable def an38 : Ann := .a
noncomputable def m38 : (Int × Int × Int) → Option (Bool) :=
 fun (x : Int × Int × Int) => some (PE.andM (leM x.2.1 x.1) (leM x.1 x.2.2))
theorem c38 : SpecOK Tryz.prog 38 ⟨as38, rs38, m38⟩ :=
 fc tabs12OK [] an38 Tryz.f38 fun x => by kernel_rfl
noncomputable def tabs38 : Tabs := Tabs.add tabs12 38 ⟨as38, rs38, m38⟩
theorem tabs38OK : TabOK Tryz.prog tabs38 := TabOK.add tabs12OK c38 Tryz.call38

/-! putlog/putlogref22.Clue -/
def as22 : List Ty := [(.list tI), (.pair tI (.pair tI (.pair tI (.pair tI tI))))]
def rs22 : List Ty := [(.pair tI (.pair tI (.pair tI (.pair tI tI))))]
noncomputable def an22 : Ann := .seq (.a) (.seq (.reg [0,1,3,7,0,16,0,64,247,511,0,2047] (ra 0 12 ([])) (z0::.s [0] []::za 3 (.s [0] []::za 4 (.s [] [2]::.s [2] [2]::[]))) (.a)) (.seq (.a) (.seq (.a) (.seq (.a) (.seq (.join [(.norm,⟨[],(ra 35 8 ([])),[(2,.box [.d (.d tI),.d (.d tI),.d (.d tI),.d (.d tI),.d (.d tI)])],[]⟩)] (.a)) (.seq (.join [(.norm,⟨[],(ra 43 9 ([])),[(2,.box [.d (.d tI),.d (.d tI),.d (.d tI),.d (.d tI),.d (.d tI)])],[]⟩)] (.a)) (.seq (.join [(.norm,⟨[],(ra 52 57 ([])),[(2,.box [.d (.d tI),.d (.d tI),.d (.d tI),.d (.d tI),.d (.d tI)])],[]⟩)] (.a)) (.a))))))))
noncomputable def m22 : (List Int × Int × Int × Int × Int × Int) → Option (Int × Int × Int × Int × Int) :=
 fun (x : List Int × Int × Int × Int × Int × Int) => Option.bind (m37 (x.2.1, (5 : Int))) fun (r : Int) => Option.bind (m37 (x.2.2.1, lenM x.1)) fun (r_1 : Int)
 => Option.bind (m37 (x.2.2.2.1, lenM x.1)) fun (r_2 : Int) => Option.bind (idxM x.1 r_1) fun (r_3 : Int) => Option.bind (idxM x.1 r_2) fun (r_4 : Int) =>
 Option.bind (bif PE.andM (eqM (IntKind.wrap IntKind.i64 ((1 : Int) + r)) (4 : Int)) (PE.notM (eqM (IntKind.wrap IntKind.i64 (r_4 - r_3)) (0 : Int))) then some
 ((5 : Int), r_1, (0 : Int), (0 : Int), (0 : Int)) else some (IntKind.wrap IntKind.i64 ((1 : Int) + r), r_1, (0 : Int), (0 : Int), (0 : Int))) fun (o : Int ×
 Int × Int × Int × Int) => Option.bind (Option.bind (bif eqM o.1 (5 : Int) then m38 (IntKind.wrap IntKind.i64 (r_4 - r_3), (-200 : Int), (200 : Int)) else some
 false) fun (r : Bool) => bif PE.andM (eqM o.1 (5 : Int)) (PE.notM r) then some ((2 : Int), o.2.1, o.2.2.1, o.2.2.2.1, o.2.2.2.2) else some (o.1, o.2.1,
 o.2.2.1, o.2.2.2.1, o.2.2.2.2)) fun (o_1 : Int × Int × Int × Int × Int) => Option.bind (bif eqM o_1.1 (1 : Int) then Option.bind (m37 (x.2.2.2.2.1, (30 :
 Int))) fun (r_5 : Int) => Option.bind (m37 (x.2.2.2.2.2, (30 : Int))) fun (r : Int) => some (o_1.1, o_1.2.1, o_1.2.2.1, max (IntKind.wrap IntKind.i64 (r_3 -
 r_5)) (0 : Int), min (IntKind.wrap IntKind.i64 (IntKind.wrap IntKind.i64 (r_3 + (1 : Int)) + r)) (2101 : Int)) else bif eqM o_1.1 (2 : Int) then Option.bind
 (m37 (x.2.2.2.2.1, (50 : Int))) fun (r : Int) => some (o_1.1, o_1.2.1, o_1.2.2.1, max (IntKind.wrap IntKind.i64 (r_3 - r)) (0 : Int), o_1.2.2.2.2) else bif
 eqM o_1.1 (3 : Int) then Option.bind (m37 (x.2.2.2.2.1, (50 : Int))) fun (r : Int) => some (o_1.1, o_1.2.1, o_1.2.2.1, min (IntKind.wrap IntKind.i64 (r_3 +
 r)) (2100 : Int), o_1.2.2.2.2) else bif eqM o_1.1 (4 : Int) then some (o_1.1, o_1.2.1, r_2, o_1.2.2.2.1, o_1.2.2.2.2) else Option.bind (m37 (x.2.2.2.2.1, (30
 : Int))) fun (r_5 : Int) => Option.bind (m37 (x.2.2.2.2.2, (30 : Int))) fun (r : Int) => some (o_1.1, o_1.2.1, r_2, max (IntKind.wrap IntKind.i64
 (IntKind.wrap IntKind.i64 (r_4 - r_3) - r_5)) (-200 : Int), min (IntKind.wrap IntKind.i64 (IntKind.wrap IntKind.i64 (r_4 - r_3) + r)) (200 : Int))) fun (o :
 Int × Int × Int × Int × Int) => some (o.1, o.2.1, o.2.2.1, o.2.2.2.1, o.2.2.2.2)
theorem c22 : SpecOK Tryz.prog 22 ⟨as22, rs22, m22⟩ :=
 fc tabs38OK [] an22 Tryz.f22 fun x => by kernel_rfl
noncomputable def tabs22 : Tabs := Tabs.add tabs38 22 ⟨as22, rs22, m22⟩
theorem tabs22OK : TabOK Tryz.prog tabs22 := TabOK.add tabs38OK c22 Tryz.call22

/-! putlog/putlogref22.Misses -/
def as36 : List Ty := [(.pair tI (.pair (.list (.pair tI tI)) (.pair tI (.pair tI (.pair (.list tI) (.pair (.list (.pair tI (.pair tI (.pair tI (.pair tI tI))))) (.pair tI (.pair tI tI))))))))]
def rs36 : List Ty := [.bool]
noncomputable def an36 : Ann := .a
noncomputable def m36 : (Int × (List (Int × Int)) × Int × Int × List Int × (List (Int × Int × Int × Int × Int)) × Int × Int × Int) → Option (Bool) :=
 fun (x : Int × List (Int × Int) × Int × Int × List Int × List (Int × Int × Int × Int × Int) × Int × Int × Int) => Option.bind (m37 (x.2.2.2.2.2.2.1, (3 : Int)))
 fun (r : Int) => some (eqM r (2 : Int))
theorem c36 : SpecOK Tryz.prog 36 ⟨as36, rs36, m36⟩ :=
 fc tabs22OK [] an36 Tryz.f36 fun x => by kernel_rfl
noncomputable def tabs36 : Tabs := Tabs.add tabs22 36 ⟨as36, rs36, m36⟩
theorem tabs36OK : TabOK Tryz.prog tabs36 := TabOK.add tabs22OK c36 Tryz.call36

/-! putlog/putlogref22.Made -/
def as11 : List Ty := [(.pair tI (.pair (.list (.pair tI tI)) (.pair tI (.pair tI (.pair (.list tI) (.pair (.list (.pair tI (.pair tI (.pair tI (.pair tI tI))))) (.pair tI (.pair tI tI))))))))]
def rs11 : List Ty := [(.pair (.pair tI (.list (.pair tI tI))) (.list (.pair tI (.pair tI (.pair tI (.pair tI tI))))))]
noncomputable def an11 : Ann := .seq (.a) (.seq (.a) (.seq (.a) (.seq (.seq (.a) (.block (.loop ⟨[(5,.r (.c (.d (.d tI))))],(ra 13 28 ([])),[(2,.box [.d (.d tI),.d (.d (.list (.pair tI tI))),.h 3])],[.arr (.pair tI (.pair tI (.pair tI (.pair tI tI))))]⟩ [(.exit 0,⟨[],(5::ra 13 28 ([])),[(2,.box [.d (.d tI),.d (.d (.list (.pair tI tI))),.h 3])],[.arr (.pair tI (.pair tI (.pair tI (.pair tI tI))))]⟩)] (.seq (.a) (.seq (.block (.reg [0,1,0,0,8,0,56,120,252,508,1023,2047,4095] (ra 0 13 ([])) (z0::.s [2] []::z0::z0::.s [0] []::za 5 (.s [3] [4,3]::z0::.s [2,4] [2]::[])) (.a))) (.a)))))) (.seq (.join [(.norm,⟨[],(6::7::ra 41 111 ([])),[(3,.arr (.pair tI (.pair tI (.pair tI (.pair tI tI)))))],[]⟩)] (.seq (.a) (.cond (.seq (.reg [0,1,0,4,12,0,32,96,252,511,1023] (ra 0 11 ([])) [z0,.s [2] [],z0,z0,.s [0] [],z0,.s [2] [],.s [3] [],z0,.s [3] [],z0] (.a)) (.a)) (.a)))) (.a)))))
noncomputable def m11 : (Int × (List (Int × Int)) × Int × Int × List Int × (List (Int × Int × Int × Int × Int)) × Int × Int × Int) → Option ((Int × List (Int × Int)) × List (Int × Int × Int × Int × Int)) :=
 fun (x : Int × List (Int × Int) × Int × Int × List Int × List (Int × Int × Int × Int × Int) × Int × Int × Int) => Option.bind (m35 (x.1, x.2.1, x.2.2.1,
 x.2.2.2.1, x.2.2.2.2.1, x.2.2.2.2.2.1, x.2.2.2.2.2.2.1, x.2.2.2.2.2.2.2.1, x.2.2.2.2.2.2.2.2)) fun (r : Int × List (Int × Int)) => Option.bind (m12 (x.1,
 x.2.1, x.2.2.1, x.2.2.2.1, x.2.2.2.2.1, x.2.2.2.2.2.1, x.2.2.2.2.2.2.1, x.2.2.2.2.2.2.2.1, x.2.2.2.2.2.2.2.2)) fun (r_1 : List Int) => Option.bind (loopM (fun
 (s : Int × Int × List (Int × Int) × List (Int × Int × Int × Int × Int)) => bif PE.andM (PE.andM (ltM s.1 (lenM x.2.2.2.2.2.1)) (ltM s.1 (10 : Int))) (ltM (0 :
 Int) (lenM r_1)) then Option.bind (idxM x.2.2.2.2.2.1 s.1) fun (r_2 : Int × Int × Int × Int × Int) => Option.bind (m22 (r_1, r_2.1, r_2.2.1, r_2.2.2.1,
 r_2.2.2.2.1, r_2.2.2.2.2)) fun (r_3 : Int × Int × Int × Int × Int) => Option.bind (appM (nat_lit 40) s.2.2.2 [(r_3.1, r_3.2.1, r_3.2.2.1, r_3.2.2.2.1,
 r_3.2.2.2.2)]) fun (r : List (Int × Int × Int × Int × Int)) => some (Sum.inl (IntKind.wrap IntKind.i64 (s.1 + (1 : Int)), s.2.1, s.2.2.1, r)) else some
 (Sum.inr (s.2.1, s.2.2.1, s.2.2.2))) ((0 : Int), r.1, r.2, [])) fun (o : Int × List (Int × Int) × List (Int × Int × Int × Int × Int)) => Option.bind
 (Option.bind (m36 (x.1, x.2.1, x.2.2.1, x.2.2.2.1, x.2.2.2.2.1, x.2.2.2.2.2.1, x.2.2.2.2.2.2.1, x.2.2.2.2.2.2.2.1, x.2.2.2.2.2.2.2.2)) fun (r_2 : Bool) => bif
 PE.andM r_2 (ltM (0 : Int) (lenM o.2.2)) then Option.bind (m37 (x.2.2.2.2.2.2.2.1, lenM o.2.2)) fun (r_3 : Int) => Option.bind (chkM r_3 (lenM o.2.2)) fun
 (r_4 : Unit) => Option.bind (m37 (x.2.2.2.2.2.2.2.2, (60 : Int))) fun (r_5 : Int) => Option.bind (Option.bind (idxM o.2.2 r_3) fun (x : Int × Int × Int × Int
 × Int) => some x.1) fun (r_6 : Int) => bif eqM r_6 (1 : Int) then Option.bind (Option.bind (idxM o.2.2 r_3) fun (x : Int × Int × Int × Int × Int) => some
 x.2.2.2.1) fun (r_7 : Int) => Option.bind (setM o.2.2 r_3 fun (x : Int × Int × Int × Int × Int) => some (x.1, x.2.1, x.2.2.1, IntKind.wrap IntKind.i64 (r_7 +
 IntKind.wrap IntKind.i64 (r_5 - (30 : Int))), x.2.2.2.2)) fun (r_8 : List (Int × Int × Int × Int × Int)) => Option.bind (Option.bind (idxM r_8 r_3) fun (x :
 Int × Int × Int × Int × Int) => some x.2.2.2.2) fun (r_9 : Int) => Option.bind (setM r_8 r_3 fun (x : Int × Int × Int × Int × Int) => some (x.1, x.2.1,
 x.2.2.1, x.2.2.2.1, IntKind.wrap IntKind.i64 (r_9 + IntKind.wrap IntKind.i64 (r_5 - (30 : Int))))) fun (r : List (Int × Int × Int × Int × Int)) => some r else
 bif eqM r_6 (2 : Int) then Option.bind (Option.bind (idxM o.2.2 r_3) fun (x : Int × Int × Int × Int × Int) => some x.2.2.2.1) fun (r_7 : Int) => Option.bind
 (setM o.2.2 r_3 fun (x : Int × Int × Int × Int × Int) => some (x.1, x.2.1, x.2.2.1, IntKind.wrap IntKind.i64 (r_7 + max (IntKind.wrap IntKind.i64 (r_5 - (30 :
 Int))) (IntKind.wrap IntKind.i64 (negM (IntKind.wrap IntKind.i64 (r_5 - (30 : Int)))))), x.2.2.2.2)) fun (r : List (Int × Int × Int × Int × Int)) => some r
 else bif eqM r_6 (3 : Int) then Option.bind (Option.bind (idxM o.2.2 r_3) fun (x : Int × Int × Int × Int × Int) => some x.2.2.2.1) fun (r_7 : Int) =>
 Option.bind (setM o.2.2 r_3 fun (x : Int × Int × Int × Int × Int) => some (x.1, x.2.1, x.2.2.1, IntKind.wrap IntKind.i64 (r_7 - max (IntKind.wrap IntKind.i64
 (r_5 - (30 : Int))) (IntKind.wrap IntKind.i64 (negM (IntKind.wrap IntKind.i64 (r_5 - (30 : Int)))))), x.2.2.2.2)) fun (r : List (Int × Int × Int × Int × Int))
 => some r else bif eqM r_6 (5 : Int) then Option.bind (Option.bind (idxM o.2.2 r_3) fun (x : Int × Int × Int × Int × Int) => some x.2.2.2.1) fun (r_7 : Int)
 => Option.bind (m38 (IntKind.wrap IntKind.i64 (r_7 + IntKind.wrap IntKind.i64 (r_5 - (30 : Int))), (-200 : Int), (200 : Int))) fun (r_8 : Bool) => Option.bind
 (bif r_8 then Option.bind (idxM o.2.2 r_3) fun (x : Int × Int × Int × Int × Int) => some x.2.2.2.2 else some (0 : Int)) fun (r_9 : Int) => Option.bind (bif
 r_8 then m38 (IntKind.wrap IntKind.i64 (r_9 + IntKind.wrap IntKind.i64 (r_5 - (30 : Int))), (-200 : Int), (200 : Int)) else some false) fun (r_10 : Bool) =>
 bif PE.andM r_8 r_10 then Option.bind (Option.bind (idxM o.2.2 r_3) fun (x : Int × Int × Int × Int × Int) => some x.2.2.2.1) fun (r_11 : Int) => Option.bind
 (setM o.2.2 r_3 fun (x : Int × Int × Int × Int × Int) => some (x.1, x.2.1, x.2.2.1, IntKind.wrap IntKind.i64 (r_11 + IntKind.wrap IntKind.i64 (r_5 - (30 :
 Int))), x.2.2.2.2)) fun (r_12 : List (Int × Int × Int × Int × Int)) => Option.bind (Option.bind (idxM r_12 r_3) fun (x : Int × Int × Int × Int × Int) => some
 x.2.2.2.2) fun (r_13 : Int) => Option.bind (setM r_12 r_3 fun (x : Int × Int × Int × Int × Int) => some (x.1, x.2.1, x.2.2.1, x.2.2.2.1, IntKind.wrap
 IntKind.i64 (r_13 + IntKind.wrap IntKind.i64 (r_5 - (30 : Int))))) fun (r : List (Int × Int × Int × Int × Int)) => some r else some o.2.2 else some o.2.2 else
 some o.2.2) fun (o_1 : List (Int × Int × Int × Int × Int)) => some ((o.1, o.2.1), o_1)
theorem c11 : SpecOK Tryz.prog 11 ⟨as11, rs11, m11⟩ :=
 fc tabs36OK [] an11 Tryz.f11 fun x => by kernel_rfl
noncomputable def tabs11 : Tabs := Tabs.add tabs36 11 ⟨as11, rs11, m11⟩
theorem tabs11OK : TabOK Tryz.prog tabs11 := TabOK.add tabs36OK c11 Tryz.call11

/-! putlog/putloglaw22.with -/
def as19 : List Ty := [(.pair (.pair tI (.list (.pair tI tI))) (.list (.pair tI (.pair tI (.pair tI (.pair tI tI)))))), (.pair tI (.pair tI (.pair tI (.pair tI tI))))]
def rs19 : List Ty := [(.pair (.pair tI (.list (.pair tI tI))) (.list (.pair tI (.pair tI (.pair tI (.pair tI tI))))))]
noncomputable def an19 : Ann := .seq (.a) (.seq (.reg [0,1,0,0,8,28,0,64,252,511,1023] (ra 0 11 ([])) [z0,.s [0] [],z0,z0,.s [0] [],.s [] [3],.s [1] [],z0,.s [3] [4,3],z0,.s [2,4] [2]] (.a)) (.a))
noncomputable def m19 : (((Int × List (Int × Int)) × List (Int × Int × Int × Int × Int)) × Int × Int × Int × Int × Int) → Option ((Int × List (Int × Int)) × List (Int × Int × Int × Int × Int)) :=
 fun (x : ((Int × List (Int × Int)) × List (Int × Int × Int × Int × Int)) × Int × Int × Int × Int × Int) => Option.bind (appM (nat_lit 40) [] x.1.2) fun (r :
 List (Int × Int × Int × Int × Int)) => Option.bind (appM (nat_lit 40) r [(x.2.1, x.2.2.1, x.2.2.2.1, x.2.2.2.2.1, x.2.2.2.2.2)]) fun (r : List (Int × Int ×
 Int × Int × Int)) => some ((x.1.1.1, x.1.1.2), r)
theorem c19 : SpecOK Tryz.prog 19 ⟨as19, rs19, m19⟩ :=
 fc tabs11OK [] an19 Tryz.f19 fun x => by kernel_rfl
noncomputable def tabs19 : Tabs := Tabs.add tabs11 19 ⟨as19, rs19, m19⟩
theorem tabs19OK : TabOK Tryz.prog tabs19 := TabOK.add tabs11OK c19 Tryz.call19

/-! putlog/putloglaw22.in -/
def as21 : List Ty := [(.pair tI tI), tI]
def rs21 : List Ty := [.bool]
noncomputable def an21 : Ann := .a
noncomputable def m21 : ((Int × Int) × Int) → Option (Bool) :=
 fun (x : (Int × Int) × Int) => some (PE.andM (leM x.1.1 x.2) (ltM x.2 x.1.2))
theorem c21 : SpecOK Tryz.prog 21 ⟨as21, rs21, m21⟩ :=
 fc tabs19OK [] an21 Tryz.f21 fun x => by kernel_rfl
noncomputable def tabs21 : Tabs := Tabs.add tabs19 21 ⟨as21, rs21, m21⟩
theorem tabs21OK : TabOK Tryz.prog tabs21 := TabOK.add tabs19OK c21 Tryz.call21

/-! putlog/putloglaw22.DatingSound -/
def as5 : List Ty := [(.pair tI (.pair (.list (.pair tI tI)) (.pair tI (.pair tI (.pair (.list tI) (.pair (.list (.pair tI (.pair tI (.pair tI (.pair tI tI))))) (.pair tI (.pair tI tI)))))))), (.pair tI (.pair tI (.pair tI (.pair tI tI))))]
def rs5 : List Ty := [.bool]
noncomputable def an5 : Ann := .seq (.a) (.seq (.a) (.seq (.a) (.seq (.a) (.seq (.a) (.seq (.a) (.seq (.a) (.seq (.a) (.seq (.a) (.seq (.a) (.seq (.a) (.seq (.a) (.seq (.seq (.a) (.block (.loop ⟨[(13,.r (.c (.d (.d tI))))],(ra 66 42 ([])),[],[]⟩ [(.exit 0,⟨[],(13::ra 66 42 ([])),[],[]⟩),(.ret,⟨[(4,.r (.c (.d (.d .bool))))],(13::ra 66 42 ([])),[],[]⟩)] (.seq (.a) (.seq (.block (.seq (.reg [0,0,3,7,0,0,48,112,255,511,1023,2047,2047,8191,16383,32767,2047,2047,198655,460799,985087,2097151,4194303,8388607,16777215,16777215,67108863,134217727,268435455,16777215,16777215,1627389951,3774873599,8069840895,17179869183,34359738367] (ra 0 36 ([])) (za 36 ([])) (.a)) (.a))) (.a)))))) (.a)))))))))))))
noncomputable def m5 : ((Int × (List (Int × Int)) × Int × Int × List Int × (List (Int × Int × Int × Int × Int)) × Int × Int × Int) × Int × Int × Int × Int × Int) → Option (Bool) :=
 fun (x : (Int × List (Int × Int) × Int × Int × List Int × List (Int × Int × Int × Int × Int) × Int × Int × Int) × Int × Int × Int × Int × Int) => Option.bind
 (m10 ()) fun (r : Bool) => bif PE.notM r then some false else Option.bind (m11 (x.1.1, x.1.2.1, x.1.2.2.1, x.1.2.2.2.1, x.1.2.2.2.2.1, x.1.2.2.2.2.2.1, (0 :
 Int), x.1.2.2.2.2.2.2.2.1, x.1.2.2.2.2.2.2.2.2)) fun (r_1 : (Int × List (Int × Int)) × List (Int × Int × Int × Int × Int)) => Option.bind (m12 (x.1.1,
 x.1.2.1, x.1.2.2.1, x.1.2.2.2.1, x.1.2.2.2.2.1, x.1.2.2.2.2.2.1, (0 : Int), x.1.2.2.2.2.2.2.2.1, x.1.2.2.2.2.2.2.2.2)) fun (r_2 : List Int) => Option.bind
 (m17 ((r_1.1.1, r_1.1.2), r_1.2)) fun (r_3 : List (Int × Int) × Int) => Option.bind (bif PE.notM (PE.orM (PE.notM (eqM r_3.2 (0 : Int))) (PE.notM (eqM (lenM
 r_3.1) (lenM r_2)))) then m18 (((r_1.1.1, r_1.1.2), r_1.2), r_2) else some false) fun (r_4 : Bool) => bif PE.orM (PE.orM (PE.notM (eqM r_3.2 (0 : Int)))
 (PE.notM (eqM (lenM r_3.1) (lenM r_2)))) (PE.notM r_4) then some false else bif eqM (lenM r_2) (0 : Int) then some r else Option.bind (m22 (r_2, x.2.1,
 x.2.2.1, x.2.2.2.1, x.2.2.2.2.1, x.2.2.2.2.2)) fun (r_5 : Int × Int × Int × Int × Int) => Option.bind (m19 (((r_1.1.1, r_1.1.2), r_1.2), r_5.1, r_5.2.1,
 r_5.2.2.1, r_5.2.2.2.1, r_5.2.2.2.2)) fun (r_6 : (Int × List (Int × Int)) × List (Int × Int × Int × Int × Int)) => Option.bind (m17 ((r_6.1.1, r_6.1.2),
 r_6.2)) fun (r_7 : List (Int × Int) × Int) => bif PE.orM (PE.notM (eqM r_7.2 (0 : Int))) (PE.notM (eqM (lenM r_7.1) (lenM r_3.1))) then some false else
 Option.bind (loopM (fun (s : Int) => bif ltM s (lenM r_3.1) then Option.bind (idxM r_7.1 s) fun (r_8 : Int × Int) => Option.bind (idxM r_2 s) fun (r_9 : Int)
 => Option.bind (m21 ((r_8.1, r_8.2), r_9)) fun (r_10 : Bool) => Option.bind (bif PE.notM (PE.notM r_10) then idxM r_7.1 s else some ((0 : Int), (0 : Int)))
 fun (r_11 : Int × Int) => Option.bind (bif PE.notM (PE.notM r_10) then idxM r_3.1 s else some ((0 : Int), (0 : Int))) fun (r_12 : Int × Int) => Option.bind
 (bif PE.notM (PE.orM (PE.notM r_10) (ltM r_11.1 r_12.1)) then idxM r_7.1 s else some ((0 : Int), (0 : Int))) fun (r_13 : Int × Int) => Option.bind (bif
 PE.notM (PE.orM (PE.notM r_10) (ltM r_11.1 r_12.1)) then idxM r_3.1 s else some ((0 : Int), (0 : Int))) fun (r : Int × Int) => bif PE.orM (PE.orM (PE.notM
 r_10) (ltM r_11.1 r_12.1)) (ltM r.2 r_13.2) then some (Sum.inr (Sum.inr false)) else some (Sum.inl (IntKind.wrap IntKind.i64 (s + (1 : Int)))) else some
 (Sum.inr (Sum.inl ()))) (0 : Int)) fun (o : Unit ⊕ Bool) => Sum.elim (fun (t : Unit) => some r) (fun (t : Bool) => some t) o
theorem c5 : SpecOK Tryz.prog 5 ⟨as5, rs5, m5⟩ :=
 fc tabs21OK [] an5 Tryz.f5 fun x => by kernel_rfl
noncomputable def tabs5 : Tabs := Tabs.add tabs21 5 ⟨as5, rs5, m5⟩
theorem tabs5OK : TabOK Tryz.prog tabs5 := TabOK.add tabs21OK c5 Tryz.call5
end Go.Proofs.YthfgccfaildmfaaGreatDoor
/-
 Nothing more is needed. No conditions.
-/
/-
 Nothing more is needed. No conditions.
-/
/-
 Nothing more is needed. No conditions.
-/
/-
 Between, turned to this seat: valid systems; the sum of distances.
 No conditions.
-/
namespace Go.Proofs.YthfgccfaildmfaaGreatDoor
open Go Go.Abs Go.PE
def bnd (n : Int) (c : Int × Int × Int) : Bool := decide (0 ≤ c.1 ∧ c.1 < n ∧ 0 ≤ c.2.1 ∧ c.2.1 < n ∧ -1000000000 ≤ c.2.2 ∧ c.2.2 ≤ 1000000000)
def sys (x : Int × List (Int × Int × Int)) : Bool := decide (0 ≤ x.1 ∧ x.1 ≤ 16 ∧ x.2.length ≤ 60) && x.2.all (bnd x.1)
theorem m102_eq {n : Int} (c : Int × Int × Int) (h0 : 0 ≤ n) (h1 : n ≤ 16) : m102 (n, c.1, c.2.1, c.2.2) = some (bnd n c) := by
 unfold m102 m98 bnd
 have e : ∀ a : Int, decide (a ≤ n - 1) = decide (a < n) := fun a => by
  by_cases h : a < n
  ·rw [decide_eq_true h, decide_eq_true (by omega)]
  ·rw [decide_eq_false h, decide_eq_false (by omega)]
 simp only [Option.bind_some, wrap_in (n := n - 1) (by omega) (by omega), Bool.decide_and, leM, e]
 generalize decide ((0 : Int) ≤ c.1) = p1
 generalize decide (c.1 < n) = p2
 generalize decide ((0 : Int) ≤ c.2.1) = p3
 generalize decide (c.2.1 < n) = p4
 generalize decide ((-1000000000 : Int) ≤ c.2.2) = p5
 generalize decide (c.2.2 ≤ (1000000000 : Int)) = p6
 cases p1 <;> cases p2 <;> cases p3 <;> cases p4 <;> cases p5 <;> cases p6 <;> rfl
theorem m64_eq (x : Int × List (Int × Int × Int)) : m64 x = some (sys x) := by
 unfold m64 m98
 simp only [Option.bind_some]
 by_cases h : 0 ≤ x.1 ∧ x.1 ≤ 16 ∧ x.2.length ≤ 60
 ·obtain ⟨h0, h1, h2⟩ := h
  have e1 : PE.andM (leM (0 : Int) x.1) (leM x.1 (16 : Int)) = true := by simp [PE.andM, h0, h1]
  have e2 : leM (lenM x.2) (60 : Int) = true := decide_eq_true (by show (x.2.length : Int) ≤ 60; omega)
  rw [e1, e2]
  simp only [PE.andM, Bool.and_self, cond_true, Bool.true_and]
  rw [any_loop (xs := x.2) (fun c => !bnd x.1 c)]
  ·simp [PE.notM, sys, h0, h1, h2, List.all_eq_not_any_not]
  ·intro k hk
   have : ltM (k : Int) (lenM x.2) = true := decide_eq_true (by show (k : Int) < (x.2.length : Int); omega)
   rw [this, cond_true, idxM_lt hk, Option.bind_some, m102_eq _ h0 h1, Option.bind_some, wrap_in (by omega) (by omega)]
   unfold PE.notM
   cases bnd x.1 x.2[k] <;> rfl
  ·have : ltM (x.2.length : Int) (lenM x.2) = false := by simp
   rw [this]; rfl
 ·have e1 : PE.andM (PE.andM (leM (0 : Int) x.1) (leM x.1 (16 : Int))) (leM (lenM x.2) (60 : Int)) = false := by
   simp only [PE.andM, Bool.and_eq_false_iff]
   by_cases a : 0 ≤ x.1 <;> by_cases b : x.1 ≤ 16 <;> simp [a, b, leM, lenM] at h ⊢; omega
  rw [e1]
  simp [PE.andM, sys, h]
theorem m88_eq {a b : Int} : m88 (a, b) = some (if a = 1152921504606846976 ∨ b = 1152921504606846976 then 1152921504606846976 else IntKind.wrap IntKind.i64 (a + b)) := by
 unfold m88
 by_cases h : a = 1152921504606846976 <;> by_cases h' : b = 1152921504606846976 <;> simp [h, h', PE.orM, eqM]
end Go.Proofs.YthfgccfaildmfaaGreatDoor
/-
 Between, turned to this seat: the table of no distances.
 No conditions.
-/
namespace Go.Proofs.YthfgccfaildmfaaGreatDoor
open Go Go.Abs Go.PE
set_option linter.unusedVariables false
def d0 (i j : Nat) : Int := if i = j then 0 else 1152921504606846976
theorem m144_eq (i j : Nat) : m144 ((i : Int), (j : Int)) = some (d0 i j) := by
 unfold m144 d0
 by_cases h : i = j
 ·subst h; simp [eqM]
 ·have : ¬ ((i : Int) = (j : Int)) := by omega
  simp [eqM, h, this]
theorem lt_true {a b : Int} (h : a < b) : ltM a b = true := decide_eq_true h
theorem lt_false {a b : Int} (h : ¬ a < b) : ltM a b = false := decide_eq_false h
theorem none_rows {n : Nat} (hn : n ≤ 16) {i : Nat} (hi : i < n) :
  loopM (fun (s_1 : Int × List (List Int)) =>
   bif ltM s_1.1 (n : Int) then
    Option.bind (chkM (i : Int) (lenM s_1.2)) fun (r_1 : Unit) =>
     Option.bind (chkM (i : Int) (lenM s_1.2)) fun (r_2 : Unit) =>
      Option.bind (m144 ((i : Int), s_1.1)) fun (r_3 : Int) =>
       Option.bind (app2M (nat_lit 8) s_1.2 (i : Int) [r_3]) fun (r_4 : List (List Int)) =>
        Option.bind (chkM (i : Int) (lenM r_4)) fun (r_5 : Unit) =>
         Option.bind
          (Option.bind (sameM (i : Int) (i : Int)) fun (x : Unit) =>
           Option.bind (sameM (i : Int) (i : Int)) fun (x : Unit) => chkM (i : Int) (lenM r_4))
          fun (r : Unit) => some (Sum.inl (IntKind.wrap IntKind.i64 (s_1.1 + (1 : Int)), r_4))
   else some (Sum.inr s_1.2)) ((0 : Int), rt n (fun a => if a < i then n else 0) d0) = some (rt n (fun a => if a < i + 1 then n else 0) d0) := by
 have e0 : rt n (fun a => if a < i then n else 0) d0 = rt n (fun a => if a < i then n else if a = i then 0 else 0) d0 := rt_congr (fun a _ => by simp) fun _ _ _ _ => rfl
 rw [e0]
 refine count_loop (fun j => rt n (fun a => if a < i then n else if a = i then j else 0) d0) n (fun j hj => ?_) ?_
 ·have hl : ∀ (len : Nat → Nat), chkM (i : Int) (lenM (rt n len d0)) = some () := fun len => chkM_of (by omega) (by show (i : Int) < ((rt n len d0).length : Int); rw [rt_length]; omega)
  simp only [lt_true (a := (j : Int)) (b := (n : Int)) (by omega), cond_true, hl, Option.bind_some, m144_eq, sameM_self]
  have hj' : (if i < i then n else if i = i then j else 0) = j := by simp
  have hap := rt_app (n := n) (len := fun a => if a < i then n else if a = i then j else 0) (d := d0) (i := i) (b := 8) hi (by simp; omega)
  rw [hj'] at hap
  rw [hap, Option.bind_some, hl, Option.bind_some, Option.bind_some, wrap_in (by omega) (by omega)]
  congr 3
  refine rt_congr (fun a _ => ?_) fun _ _ _ _ => rfl
  unfold upl
  by_cases e : a = i <;> simp [e]
 ·simp only [lt_false (a := (n : Int)) (b := (n : Int)) (by omega), cond_false]
  congr 2
  refine rt_congr (fun a _ => ?_) fun _ _ _ _ => rfl
  by_cases e : a < i
  ·rw [if_pos e, if_pos (by omega)]
  ·by_cases e' : a = i
   ·rw [if_neg e, if_pos e', if_pos (by omega)]
   ·rw [if_neg e, if_neg e', if_neg (by omega)]
theorem none_loop {n : Nat} (hn : n ≤ 16) : loopM
    (fun (s : Int × List (List Int)) =>
     bif ltM s.1 (n : Int) then
      Option.bind
       (loopM
        (fun (s_1 : Int × List (List Int)) =>
         bif ltM s_1.1 (n : Int) then
          Option.bind (chkM s.1 (lenM s_1.2)) fun (r_1 : Unit) =>
           Option.bind (chkM s.1 (lenM s_1.2)) fun (r_2 : Unit) =>
            Option.bind (m144 (s.1, s_1.1)) fun (r_3 : Int) =>
             Option.bind (app2M (nat_lit 8) s_1.2 s.1 [r_3]) fun (r_4 : List (List Int)) =>
              Option.bind (chkM s.1 (lenM r_4)) fun (r_5 : Unit) =>
               Option.bind
                (Option.bind (sameM s.1 s.1) fun (x : Unit) =>
                 Option.bind (sameM s.1 s.1) fun (x : Unit) => chkM s.1 (lenM r_4))
                fun (r : Unit) => some (Sum.inl (IntKind.wrap IntKind.i64 (s_1.1 + (1 : Int)), r_4))
         else some (Sum.inr s_1.2))
        ((0 : Int), s.2))
       fun (o : List (List Int)) => some (Sum.inl (IntKind.wrap IntKind.i64 (s.1 + (1 : Int)), o))
     else some (Sum.inr s.2))
    ((0 : Int), List.replicate ((n : Int)).toNat ([] : List Int)) = some (rt n (fun _ => n) d0) := by
 have e0 : List.replicate ((n : Int)).toNat ([] : List Int) = rt n (fun a => if a < 0 then n else 0) d0 := by
  have ht : ((n : Int)).toNat = n := by omega
  rw [ht, replicate_row]
  exact row_congr fun i _ => rfl
 rw [e0]
 refine count_loop (fun i => rt n (fun a => if a < i then n else 0) d0) n (r := rt n (fun _ => n) d0) (fun i hi => ?_) ?_
 ·simp only [lt_true (a := (i : Int)) (b := (n : Int)) (by omega), cond_true]
  rw [none_rows hn hi, Option.bind_some, wrap_in (by omega) (by omega)]
 ·simp only [lt_false (a := (n : Int)) (b := (n : Int)) (by omega), cond_false]
  congr 2
  exact rt_congr (fun a ha => if_pos ha) fun _ _ _ _ => rfl
theorem none_make {n : Nat} (hn : n ≤ 16) : mkM (n : Int) (n : Int) (nat_lit 24) ([] : List Int) = some (List.replicate ((n : Int)).toNat []) :=
 mkM_of (by omega) (by omega) (by show (n : Int) * 24 ≤ 140737488355328; omega)
end Go.Proofs.YthfgccfaildmfaaGreatDoor
/-
 Between, turned to this seat: the table of distances.
 No conditions.
-/
namespace Go.Proofs.YthfgccfaildmfaaGreatDoor
open Go Go.Abs Go.PE
set_option linter.unusedVariables false
abbrev Tab := Nat → Nat → Int
def addB (d : Tab) (c : Int × Int × Int) : Tab := upd d c.1.toNat c.2.1.toNat (min (d c.1.toNat c.2.1.toNat) c.2.2)
def pl (a b : Int) : Int := if a = 1152921504606846976 ∨ b = 1152921504606846976 then 1152921504606846976 else IntKind.wrap IntKind.i64 (a + b)
def cell (k : Nat) (rk : Nat → Int) (i j : Nat) (d : Tab) : Tab := upd d i j (min (d i j) (pl (d i k) (rk j)))
def cells (k : Nat) (rk : Nat → Int) (i : Nat) (d : Tab) : Nat → Tab
 | 0 => d
 | j + 1 => cell k rk i j (cells k rk i d j)
def rows (n k : Nat) (rk : Nat → Int) (d : Tab) : Nat → Tab
 | 0 => d
 | i + 1 => cells k rk i (rows n k rk d i) n
def rounds (n : Nat) (d : Tab) : Nat → Tab
 | 0 => d
 | k + 1 => rows n k (rounds n d k k) (rounds n d k) n
def fw (n : Nat) (bs : List (Int × Int × Int)) : Tab := rounds n (bs.foldl addB d0) n
theorem chk_rt {n : Nat} {len : Nat → Nat} {d : Tab} {i : Nat} (hi : i < n) : chkM (i : Int) (lenM (rt n len d)) = some () :=
 chkM_of (by omega) (by show (i : Int) < ((rt n len d).length : Int); rw [rt_length]; omega)
theorem chk_row {m : Nat} {g : Nat → Int} {i : Nat} (hi : i < m) : chkM (i : Int) (lenM (row m g)) = some () :=
 chkM_of (by omega) (by show (i : Int) < ((row m g).length : Int); rw [row_length]; omega)
theorem bnd_of {n : Nat} {c : Int × Int × Int} (h : bnd (n : Int) c = true) : ∃ a b : Nat, a < n ∧ b < n ∧ c.1 = a ∧ c.2.1 = b ∧ -1000000000 ≤ c.2.2 ∧ c.2.2 ≤ 1000000000 := by
 have h := of_decide_eq_true h
 exact ⟨c.1.toNat, c.2.1.toNat, by omega, by omega, by omega, by omega, by omega, by omega⟩
theorem foldl_take {α β : Type} (f : β → α → β) (z : β) (xs : List α) (k : Nat) (h : k < xs.length) : (xs.take (k + 1)).foldl f z = f ((xs.take k).foldl f z) xs[k] := by
 rw [List.take_succ_eq_append_getElem h, List.foldl_append]
 rfl
theorem bounds_loop {n : Nat} (hn : n ≤ 16) {bs : List (Int × Int × Int)} (hl : bs.length ≤ 60) (hb : bs.all (bnd (n : Int)) = true) :
  loopM
      (fun (s : Int × List (List Int)) =>
       bif ltM s.1 (lenM bs) then
        Option.bind (idxM bs s.1) fun (r_1 : Int × Int × Int) =>
         Option.bind (chkM r_1.1 (lenM s.2)) fun (r_2 : Unit) =>
          Option.bind (chkM r_1.1 (lenM s.2)) fun (r_3 : Unit) =>
           Option.bind (chkM r_1.1 (lenM s.2)) fun (r_4 : Unit) =>
            Option.bind (chkM r_1.1 (lenM s.2)) fun (r_5 : Unit) =>
             Option.bind (Option.bind (idxM s.2 r_1.1) fun (xs : List Int) => chkM r_1.2.1 (lenM xs))
              fun (r_6 : Unit) =>
              Option.bind
               (Option.bind (idxM s.2 r_1.1) fun (xs : List Int) =>
                Option.bind (idxM xs r_1.2.1) fun (x : Int) => some x)
               fun (r_7 : Int) =>
               Option.bind (Option.bind (idxM s.2 r_1.1) fun (xs : List Int) => chkM r_1.2.1 (lenM xs))
                fun (r_8 : Unit) =>
                Option.bind (set2M s.2 r_1.1 r_1.2.1 fun (x : Int) => some (min r_7 r_1.2.2))
                 fun (r : List (List Int)) =>
                 some (Sum.inl (IntKind.wrap IntKind.i64 (s.1 + (1 : Int)), r))
       else some (Sum.inr s.2))
      ((0 : Int), rt n (fun _ => n) d0) = some (rt n (fun _ => n) (bs.foldl addB d0)) := by
 refine count_loop (fun k => rt n (fun _ => n) ((bs.take k).foldl addB d0)) bs.length (fun k hk => ?_) ?_
 ·obtain ⟨a, b, ha, hb', e1, e2, _, _⟩ := bnd_of (List.all_eq_true.1 hb _ (List.getElem_mem hk))
  simp only [lt_true (a := (k : Int)) (b := lenM bs) (by show (k : Int) < (bs.length : Int); omega), cond_true, idxM_lt hk, Option.bind_some, e1, e2, chk_rt ha, rt_idx ha, chk_row hb', row_idx hb']
  rw [rt_set (y := min ((bs.take k).foldl addB d0 a b) bs[k].2.2) ha hb' rfl, Option.bind_some, wrap_in (by omega) (by omega), foldl_take addB d0 bs k hk]
  have e : addB ((bs.take k).foldl addB d0) bs[k] = upd ((bs.take k).foldl addB d0) a b (min ((bs.take k).foldl addB d0 a b) bs[k].2.2) := by
   unfold addB
   rw [e1, e2]
   rfl
  rw [e]
 ·simp only [lt_false (a := (bs.length : Int)) (b := lenM bs) (by show ¬ (bs.length : Int) < (bs.length : Int); omega), cond_false, List.take_length]
end Go.Proofs.YthfgccfaildmfaaGreatDoor
/-
 Between, turned to this seat: the table of distances is what the model computes.
 No conditions.
-/
namespace Go.Proofs.YthfgccfaildmfaaGreatDoor
open Go Go.Abs Go.PE
set_option linter.unusedVariables false
theorem m88_pl (a b : Int) : m88 (a, b) = some (pl a b) := m88_eq
theorem copy_row {n : Nat} {g : Nat → Int} : copyM (List.replicate ((n : Int)).toNat (0 : Int)) (row n g) = row n g := by
 unfold copyM
 have ht : ((n : Int)).toNat = n := by omega
 rw [ht, List.take_of_length_le (by simp [row_length]), List.drop_eq_nil_of_le (by simp [row_length]), List.append_nil]
theorem cells_loop {n : Nat} (hn : n ≤ 16) {k i : Nat} (hk : k < n) (hi : i < n) (rk : Nat → Int) (d : Tab) :
  loopM
                   (fun (s_2 : Int × List (List Int)) =>
                    bif ltM s_2.1 (n : Int) then
                     Option.bind (chkM (i : Int) (lenM s_2.2)) fun (r_5 : Unit) =>
                      Option.bind (chkM (i : Int) (lenM s_2.2)) fun (r_6 : Unit) =>
                       Option.bind (chkM (i : Int) (lenM s_2.2)) fun (r_7 : Unit) =>
                        Option.bind (chkM (i : Int) (lenM s_2.2)) fun (r_8 : Unit) =>
                         Option.bind
                          (Option.bind (idxM s_2.2 (i : Int)) fun (xs : List Int) =>
                           chkM s_2.1 (lenM xs))
                          fun (r_9 : Unit) =>
                          Option.bind
                           (Option.bind (idxM s_2.2 (i : Int)) fun (xs : List Int) =>
                            Option.bind (idxM xs s_2.1) fun (x : Int) => some x)
                           fun (r_10 : Int) =>
                           Option.bind (chkM (i : Int) (lenM s_2.2)) fun (r_11 : Unit) =>
                            Option.bind (chkM (i : Int) (lenM s_2.2)) fun (r_12 : Unit) =>
                             Option.bind
                              (Option.bind (idxM s_2.2 (i : Int)) fun (xs : List Int) =>
                               chkM (k : Int) (lenM xs))
                              fun (r_13 : Unit) =>
                              Option.bind
                               (Option.bind (idxM s_2.2 (i : Int)) fun (xs : List Int) =>
                                Option.bind (idxM xs (k : Int)) fun (x : Int) => some x)
                               fun (r_14 : Int) =>
                               Option.bind (chkM s_2.1 (lenM (copyM (List.replicate ((n : Int)).toNat (0 : Int)) (row n rk))))
                                fun (r_15 : Unit) =>
                                Option.bind (idxM (copyM (List.replicate ((n : Int)).toNat (0 : Int)) (row n rk)) s_2.1)
                                 fun (r_16 : Int) =>
                                 Option.bind (m88 (r_14, r_16)) fun (r_17 : Int) =>
                                  Option.bind
                                   (Option.bind (idxM s_2.2 (i : Int))
                                    fun (xs : List Int) => chkM s_2.1 (lenM xs))
                                   fun (r_18 : Unit) =>
                                   Option.bind
                                    (set2M s_2.2 (i : Int) s_2.1 fun (x : Int) =>
                                     some (min r_10 r_17))
                                    fun (r : List (List Int)) =>
                                    some
                                     (Sum.inl
                                      (IntKind.wrap IntKind.i64 (s_2.1 + (1 : Int)),
                                       r))
                    else some (Sum.inr s_2.2))
                   ((0 : Int), rt n (fun _ => n) d) = some (rt n (fun _ => n) (cells k rk i d n)) := by
 refine count_loop (fun j => rt n (fun _ => n) (cells k rk i d j)) n (fun j hj => ?_) ?_
 ·simp only [lt_true (a := (j : Int)) (b := (n : Int)) (by omega), cond_true, Option.bind_some, copy_row, chk_rt hi, rt_idx hi, chk_row hj, row_idx hj, chk_row hk, row_idx hk, m88_pl]
  rw [rt_set (y := min (cells k rk i d j i j) (pl (cells k rk i d j i k) (rk j))) hi hj rfl, Option.bind_some, wrap_in (by omega) (by omega)]
  rfl
 ·simp only [lt_false (a := (n : Int)) (b := (n : Int)) (by omega), cond_false]
def ovl (d : Tab) : Nat → Bool
 | 0 => false
 | i + 1 => ovl d i || decide (d i i < 0)
theorem ovl_iff (d : Tab) : ∀ n, ovl d n = true ↔ ∃ i, i < n ∧ d i i < 0
 | 0 => by simp [ovl]
 | n + 1 => by
  simp only [ovl, Bool.or_eq_true, decide_eq_true_eq, ovl_iff d n]
  constructor
  ·rintro (⟨i, h1, h2⟩ | h)
   ·exact ⟨i, by omega, h2⟩
   ·exact ⟨n, by omega, h⟩
  ·rintro ⟨i, h1, h2⟩
   by_cases e : i = n
   ·subst e; exact .inr h2
   ·exact .inl ⟨i, by omega, h2⟩
end Go.Proofs.YthfgccfaildmfaaGreatDoor
/-
 Between, turned to this seat: distances and Close, as the model computes them.
 No conditions.
-/
namespace Go.Proofs.YthfgccfaildmfaaGreatDoor
open Go Go.Abs Go.PE
set_option linter.unusedVariables false
theorem diag_loop {n : Nat} (hn : n ≤ 16) (d : Tab) :
  loopM
        (fun (s : Int) =>
         bif ltM s (n : Int) then
          Option.bind (chkM s (lenM (rt n (fun _ => n) d))) fun (r_1 : Unit) =>
           Option.bind (chkM s (lenM (rt n (fun _ => n) d))) fun (r_2 : Unit) =>
            Option.bind (Option.bind (idxM (rt n (fun _ => n) d) s) fun (xs : List Int) => chkM s (lenM xs))
             fun (r_3 : Unit) =>
             Option.bind
              (Option.bind (idxM (rt n (fun _ => n) d) s) fun (xs : List Int) =>
               Option.bind (idxM xs s) fun (x : Int) => some x)
              fun (r : Int) =>
              bif ltM r (0 : Int) then some (Sum.inr (Sum.inr false))
              else some (Sum.inl (IntKind.wrap IntKind.i64 (s + (1 : Int))))
         else some (Sum.inr (Sum.inl ())))
        (0 : Int) = some (bif ovl d n then Sum.inr false else Sum.inl ()) := by
 refine loopM_is (fun k (s : Int) => s = (k : Int) ∧ ovl d k = false) n ⟨rfl, rfl⟩ fun k s hk ⟨hs, hP⟩ => ?_
 subst hs
 by_cases hlt : k < n
 ·simp only [lt_true (a := (k : Int)) (b := (n : Int)) (by omega), cond_true, Option.bind_some, chk_rt hlt, rt_idx hlt, chk_row hlt, row_idx hlt]
  by_cases hd : d k k < 0
  ·refine .inr ?_
   rw [lt_true hd, cond_true, (ovl_iff d n).2 ⟨k, hlt, hd⟩]
   rfl
  ·refine .inl ⟨((k + 1 : Nat) : Int), hlt, by rw [lt_false hd, cond_false, wrap_in (by omega) (by omega)]; rfl, rfl, ?_⟩
   simp [ovl, hP, hd]
 ·have e : k = n := by omega
  subst e
  refine .inr ?_
  rw [lt_false (by omega), cond_false, hP]
  rfl
theorem m65_eq {n : Nat} (hn : n ≤ 16) {bs : List (Int × Int × Int)} (hl : bs.length ≤ 60) (hb : bs.all (bnd (n : Int)) = true) :
  m65 ((n : Int), bs) = some (bif ovl (fw n bs) n then ([], false) else (rt n (fun _ => n) (fw n bs), true)) := by
 unfold m65
 dsimp only
 refine bind_of (none_make hn) (bind_of (none_loop hn) (bind_of (bounds_loop hn hl hb) ?_))
 refine bind_of (x := rt n (fun _ => n) (fw n bs)) (count_loop (fun k => rt n (fun _ => n) (rounds n (bs.foldl addB d0) k)) n (fun k hk => ?_) ?_) ?_
 ·simp only [lt_true (a := (k : Int)) (b := (n : Int)) (by omega), cond_true]
  refine bind_of (mkM_of (by omega) (by omega) (by show (n : Int) * 8 ≤ 140737488355328; omega)) ?_
  simp only [chk_rt hk, Option.bind_some, rt_idx hk]
  refine bind_of (count_loop (fun i => rt n (fun _ => n) (rows n k (rounds n (bs.foldl addB d0) k k) (rounds n (bs.foldl addB d0) k) i)) n (r := rt n (fun _ => n) (rounds n (bs.foldl addB d0) (k + 1))) (fun i hi => ?_) ?_) ?_
  ·simp only [lt_true (a := (i : Int)) (b := (n : Int)) (by omega), cond_true]
   refine bind_of (cells_loop hn hk hi _ _) ?_
   rw [wrap_in (by omega) (by omega)]
   rfl
  ·simp only [lt_false (a := (n : Int)) (b := (n : Int)) (by omega), cond_false]
   rfl
  ·rw [wrap_in (by omega) (by omega)]
 ·simp only [lt_false (a := (n : Int)) (b := (n : Int)) (by omega), cond_false]
  rfl
 ·refine bind_of (diag_loop hn _) ?_
  cases ovl (fw n bs) n <;> rfl
theorem m25_eq (x : Int × List (Int × Int × Int)) : m25 x = some (bif sys x && !ovl (fw x.1.toNat x.2) x.1.toNat then (rt x.1.toNat (fun _ => x.1.toNat) (fw x.1.toNat x.2), 0) else ([], 90)) := by
 unfold m25
 rw [show (x.1, x.2) = x from rfl, m64_eq, Option.bind_some]
 cases h : sys x with
 | false => rfl
 | true =>
  have h' := h
  unfold sys at h'
  rw [Bool.and_eq_true] at h'
  obtain ⟨h1, h2⟩ := h'
  have h1 := of_decide_eq_true h1
  have e : x = (((x.1.toNat : Nat) : Int), x.2) := by
   have : x.1 = ((x.1.toNat : Nat) : Int) := by omega
   rw [← this]
  have e2 := m65_eq (n := x.1.toNat) (bs := x.2) (by omega) (by omega) (by
   have : ((x.1.toNat : Nat) : Int) = x.1 := by omega
   rw [this]; exact h2)
  rw [← e] at e2
  simp only [PE.notM, Bool.not_true, cond_false]
  rw [e2, Option.bind_some]
  cases ovl (fw x.1.toNat x.2) x.1.toNat <;> rfl
end Go.Proofs.YthfgccfaildmfaaGreatDoor
/-
 Between, turned to this seat: what is known of the table of distances: walks, and sizes.
 No conditions.
-/
namespace Go.Proofs.YthfgccfaildmfaaGreatDoor
open Go Go.Abs Go.PE
set_option linter.unusedVariables false
inductive Wk (bs : List (Int × Int × Int)) : Nat → Nat → Int → Prop
 | nil (i : Nat) : Wk bs i i 0
 | snoc {i a b : Nat} {w m : Int} : Wk bs i a w → ((a : Int), (b : Int), m) ∈ bs → Wk bs i b (w + m)
theorem Wk.trans {bs : List (Int × Int × Int)} {i j k : Nat} {v w : Int} (h : Wk bs i j v) (h2 : Wk bs j k w) : Wk bs i k (v + w) := by
 induction h2 with
 | nil => simpa using h
 | snoc _ hm ih => rw [← Int.add_assoc]; exact ih.snoc hm
def Ent (bs : List (Int × Int × Int)) (B : Int) (i j : Nat) (x : Int) : Prop := x = 1152921504606846976 ∨ (-B ≤ x ∧ x ≤ B ∧ Wk bs i j x)
theorem Ent.mono {bs : List (Int × Int × Int)} {B B' : Int} {i j : Nat} {x : Int} (hB : B ≤ B') (h : Ent bs B i j x) : Ent bs B' i j x := by
 rcases h with h | ⟨h1, h2, h3⟩
 ·exact .inl h
 ·exact .inr ⟨by omega, by omega, h3⟩
theorem Ent.pl {bs : List (Int × Int × Int)} {A B : Int} {i k j : Nat} {x y : Int} (hA : A + B ≤ 1000000000000000000) (h : Ent bs A i k x) (h2 : Ent bs B k j y) : Ent bs (A + B) i j (pl x y) := by
 unfold Go.Proofs.YthfgccfaildmfaaGreatDoor.pl
 by_cases e : x = 1152921504606846976 ∨ y = 1152921504606846976
 ·rw [if_pos e]; exact .inl rfl
 ·rw [if_neg e]
  rcases h with h | ⟨h1, h3, h4⟩
  ·exact absurd (.inl h) e
  ·rcases h2 with h2 | ⟨h5, h6, h7⟩
   ·exact absurd (.inr h2) e
   ·rw [wrap_in (by omega) (by omega)]
    exact .inr ⟨by omega, by omega, h4.trans h7⟩
theorem Ent.min {bs : List (Int × Int × Int)} {B : Int} {i j : Nat} {x y : Int} (h : Ent bs B i j x) (h2 : Ent bs B i j y) : Ent bs B i j (min x y) := by
 by_cases e : x ≤ y
 ·rw [Int.min_eq_left e]; exact h
 ·rw [Int.min_eq_right (by omega)]; exact h2
theorem cells_ent {bs : List (Int × Int × Int)} {B : Int} {n k i : Nat} {rk : Nat → Int} {d : Tab} (hB0 : 0 ≤ B) (hB : 3 * B ≤ 1000000000000000000) (hr : ∀ j, j < n → Ent bs B k j (rk j)) (hk : k < n) (hd : ∀ j, j < n → Ent bs B i j (d i j)) :
  ∀ m, m ≤ n → (∀ j, j < n → Ent bs (3 * B) i j (cells k rk i d m i j)) ∧ Ent bs (2 * B) i k (cells k rk i d m i k) ∧ (m ≤ k → Ent bs B i k (cells k rk i d m i k))
 | 0, _ => ⟨fun j hj => (hd j hj).mono (by omega), (hd k hk).mono (by omega), fun _ => hd k hk⟩
 | m + 1, hm => by
  obtain ⟨h1, h2, h3⟩ := cells_ent hB0 hB hr hk hd m (by omega)
  have hv : Ent bs (3 * B) i m (min (cells k rk i d m i m) (pl (cells k rk i d m i k) (rk m))) :=
   (h1 m (by omega)).min ((Ent.pl (A := 2 * B) (by omega) h2 (hr m (by omega))).mono (by omega))
  refine ⟨fun j hj => ?_, ?_, fun hmk => ?_⟩
  ·show Ent bs (3 * B) i j (upd _ i m _ i j)
   unfold upd
   by_cases e : j = m
   ·subst e; rw [if_pos ⟨rfl, rfl⟩]; exact hv
   ·rw [if_neg fun h => e h.2]; exact h1 j hj
  ·show Ent bs (2 * B) i k (upd _ i m _ i k)
   unfold upd
   by_cases e : k = m
   ·subst e
    rw [if_pos ⟨rfl, rfl⟩]
    exact ((h3 (by omega)).mono (by omega)).min ((Ent.pl (A := B) (by omega) (h3 (by omega)) (hr k hk)).mono (by omega))
   ·rw [if_neg fun h => e h.2]; exact h2
  ·show Ent bs B i k (upd _ i m _ i k)
   unfold upd
   rw [if_neg fun h => by omega]
   exact h3 (by omega)
theorem cells_other {k : Nat} {rk : Nat → Int} {i : Nat} {d : Tab} {a b : Nat} (ha : a ≠ i) : ∀ m, cells k rk i d m a b = d a b
 | 0 => rfl
 | m + 1 => by
  show upd _ i m _ a b = _
  unfold upd
  rw [if_neg fun h => ha h.1]
  exact cells_other ha m
end Go.Proofs.YthfgccfaildmfaaGreatDoor
/-
 Between, turned to this seat: every entry of the table of distances is the sum of a walk.
 No conditions.
-/
namespace Go.Proofs.YthfgccfaildmfaaGreatDoor
open Go Go.Abs Go.PE
set_option linter.unusedVariables false
def EntT (bs : List (Int × Int × Int)) (B : Int) (n : Nat) (d : Tab) : Prop := ∀ i j, i < n → j < n → Ent bs B i j (d i j)
theorem rows_ent {bs : List (Int × Int × Int)} {B : Int} {n k : Nat} {rk : Nat → Int} {d : Tab} (hB0 : 0 ≤ B) (hB : 3 * B ≤ 1000000000000000000) (hr : ∀ j, j < n → Ent bs B k j (rk j)) (hk : k < n) (hd : EntT bs B n d) :
  ∀ m, m ≤ n → EntT bs (3 * B) n (rows n k rk d m) ∧ ∀ i j, m ≤ i → rows n k rk d m i j = d i j
 | 0, _ => ⟨fun i j hi hj => (hd i j hi hj).mono (by omega), fun _ _ _ => rfl⟩
 | m + 1, hm => by
  obtain ⟨h1, h2⟩ := rows_ent hB0 hB hr hk hd m (by omega)
  refine ⟨fun i j hi hj => ?_, fun i j hi => ?_⟩
  ·show Ent bs (3 * B) i j (cells k rk m (rows n k rk d m) n i j)
   by_cases e : i = m
   ·subst e
    exact (cells_ent hB0 hB hr hk (fun j hj => by rw [h2 i j (Nat.le_refl _)]; exact hd i j hi hj) n (Nat.le_refl _)).1 j hj
   ·rw [cells_other e]; exact h1 i j hi hj
  ·show cells k rk m (rows n k rk d m) n i j = _
   rw [cells_other (by omega), h2 i j (by omega)]
theorem d0_ent {bs : List (Int × Int × Int)} {n : Nat} : EntT bs 1000000000 n d0 := by
 intro i j _ _
 unfold d0
 by_cases e : i = j
 ·subst e; rw [if_pos rfl]; exact .inr ⟨by omega, by omega, .nil i⟩
 ·rw [if_neg e]; exact .inl rfl
theorem bounds_ent {n : Nat} {bs : List (Int × Int × Int)} : ∀ (cs : List (Int × Int × Int)) (d : Tab), (∀ c ∈ cs, c ∈ bs ∧ bnd (n : Int) c = true) → EntT bs 1000000000 n d → EntT bs 1000000000 n (cs.foldl addB d)
 | [], d, _, h => h
 | c :: cs, d, hc, h => by
  refine bounds_ent cs (addB d c) (fun c' h' => hc c' (List.mem_cons_of_mem _ h')) ?_
  obtain ⟨hm, hb⟩ := hc c (List.mem_cons_self ..)
  obtain ⟨a, b, ha, hb', e1, e2, e3, e4⟩ := bnd_of hb
  intro i j hi hj
  unfold addB upd
  have ha' : c.1.toNat = a := by omega
  have hb'' : c.2.1.toNat = b := by omega
  rw [ha', hb'']
  by_cases e : i = a ∧ j = b
  ·rw [if_pos e]
   obtain ⟨rfl, rfl⟩ := e
   refine (h i j hi hj).min (.inr ⟨e3, e4, ?_⟩)
   have hw : Wk bs i j (0 + c.2.2) := (Wk.nil i).snoc (by rw [← e1, ← e2]; exact hm)
   simpa using hw
  ·rw [if_neg e]; exact h i j hi hj
def size : Nat → Int
 | 0 => 1000000000
 | k + 1 => 3 * size k
theorem size_pos : ∀ k, 0 ≤ size k
 | 0 => by decide
 | k + 1 => by have := size_pos k; show 0 ≤ 3 * size k; omega
theorem size_le {k : Nat} (h : k ≤ 16) : size k ≤ 100000000000000000 := by
 have : ∀ k : Fin 17, size k.1 ≤ 100000000000000000 := by decide
 exact this ⟨k, by omega⟩
theorem rounds_ent {n : Nat} (hn : n ≤ 16) {bs : List (Int × Int × Int)} {d : Tab} (hd : EntT bs 1000000000 n d) : ∀ k, k ≤ n → EntT bs (size k) n (rounds n d k)
 | 0, _ => hd
 | k + 1, hk => by
  have h := rounds_ent hn hd k (by omega)
  have hs := size_le (k := k) (by omega)
  exact (rows_ent (size_pos k) (by omega) (fun j hj => h k j (by omega) hj) (by omega) h n (Nat.le_refl _)).1
theorem fw_ent {n : Nat} (hn : n ≤ 16) {bs : List (Int × Int × Int)} (hb : bs.all (bnd (n : Int)) = true) : EntT bs 100000000000000000 n (fw n bs) := by
 intro i j hi hj
 have h0 := bounds_ent (n := n) (bs := bs) bs d0 (fun c hc => ⟨hc, List.all_eq_true.1 hb c hc⟩) d0_ent
 exact (rounds_ent hn h0 n (Nat.le_refl _) i j hi hj).mono (size_le hn)
end Go.Proofs.YthfgccfaildmfaaGreatDoor
/-
 Between, turned to this seat: entries only fall; a round in which the diagonal is zero.
 No conditions.
-/
namespace Go.Proofs.YthfgccfaildmfaaGreatDoor
open Go Go.Abs Go.PE
set_option linter.unusedVariables false
theorem cell_le (k : Nat) (rk : Nat → Int) (i j : Nat) (d : Tab) (a b : Nat) : cell k rk i j d a b ≤ d a b := by
 unfold cell upd
 by_cases e : a = i ∧ b = j
 ·rw [if_pos e]; obtain ⟨rfl, rfl⟩ := e; exact Int.min_le_left _ _
 ·rw [if_neg e]; exact Int.le_refl _
theorem cells_le (k : Nat) (rk : Nat → Int) (i : Nat) (d : Tab) (a b : Nat) : ∀ m, cells k rk i d m a b ≤ d a b
 | 0 => Int.le_refl _
 | m + 1 => Int.le_trans (cell_le ..) (cells_le k rk i d a b m)
theorem rows_le (n k : Nat) (rk : Nat → Int) (d : Tab) (a b : Nat) : ∀ m, rows n k rk d m a b ≤ d a b
 | 0 => Int.le_refl _
 | m + 1 => Int.le_trans (cells_le ..) (rows_le n k rk d a b m)
theorem rounds_le (n : Nat) (d : Tab) (a b : Nat) (k : Nat) : ∀ m, rounds n d (k + m) a b ≤ rounds n d k a b
 | 0 => Int.le_refl _
 | m + 1 => Int.le_trans (rows_le ..) (rounds_le n d a b k m)
theorem pl_zero {bs : List (Int × Int × Int)} {B : Int} {i j : Nat} {x : Int} (hB : B ≤ 1000000000000000000) (h : Ent bs B i j x) : pl x 0 = x := by
 unfold pl
 rcases h with h | ⟨h1, h2, _⟩
 ·rw [if_pos (.inl h), h]
 ·rw [if_neg (by omega), wrap_in (by omega) (by omega)]; omega
theorem cells_zero {bs : List (Int × Int × Int)} {B : Int} {k i : Nat} {rk : Nat → Int} {d : Tab} (hB : B ≤ 1000000000000000000) (hz : rk k = 0) (hd : Ent bs B i k (d i k)) :
  ∀ m, cells k rk i d m i k = d i k ∧ ∀ j, cells k rk i d m i j = if j < m then min (d i j) (pl (d i k) (rk j)) else d i j
 | 0 => ⟨rfl, fun j => by rw [if_neg (by omega)]; rfl⟩
 | m + 1 => by
  obtain ⟨h1, h2⟩ := cells_zero hB hz hd m
  have hall : ∀ j, cells k rk i d (m + 1) i j = if j < m + 1 then min (d i j) (pl (d i k) (rk j)) else d i j := fun j => by
   show upd _ i m _ i j = _
   unfold upd
   rw [h1]
   by_cases e : j = m
   ·subst e
    rw [if_pos ⟨rfl, rfl⟩, if_pos (by omega), h2 j, if_neg (by omega)]
   ·rw [if_neg fun h => e h.2, h2 j]
    by_cases e2 : j < m
    ·rw [if_pos e2, if_pos (by omega)]
    ·rw [if_neg e2, if_neg (by omega)]
  refine ⟨?_, hall⟩
  rw [hall k, hz, pl_zero hB hd, Int.min_self]
  split <;> rfl
theorem rows_zero {bs : List (Int × Int × Int)} {B : Int} {n k : Nat} {d : Tab} (hB : B ≤ 1000000000000000000) (hz : d k k = 0) (hk : k < n) (hd : EntT bs B n d) :
  ∀ m, m ≤ n → ∀ i j, i < n → j < n → rows n k (d k) d m i j = if i < m then min (d i j) (pl (d i k) (d k j)) else d i j
 | 0, _, i, j, _, _ => by rw [if_neg (by omega)]; rfl
 | m + 1, hm, i, j, hi, hj => by
  have ih := rows_zero hB hz hk hd m (by omega)
  show cells k (d k) m (rows n k (d k) d m) n i j = _
  by_cases e : i = m
  ·subst e
   have e1 : ∀ b, b < n → rows n k (d k) d i i b = d i b := fun b hb => by rw [ih i b hi hb, if_neg (by omega)]
   have hc := (cells_zero (bs := bs) (i := i) (d := rows n k (d k) d i) hB hz (by rw [e1 k hk]; exact hd i k hi hk) n).2 j
   rw [hc, if_pos hj, if_pos (by omega), e1 j hj, e1 k hk]
  ·rw [cells_other e, ih i j hi hj]
   by_cases e2 : i < m
   ·rw [if_pos e2, if_pos (by omega)]
   ·rw [if_neg e2, if_neg (by omega)]
theorem round_zero {bs : List (Int × Int × Int)} {B : Int} {n k : Nat} {d : Tab} (hB : B ≤ 1000000000000000000) (hz : d k k = 0) (hk : k < n) (hd : EntT bs B n d) {i j : Nat} (hi : i < n) (hj : j < n) :
  rows n k (d k) d n i j = min (d i j) (pl (d i k) (d k j)) := by
 rw [rows_zero hB hz hk hd n (Nat.le_refl _) i j hi hj, if_pos hi]
end Go.Proofs.YthfgccfaildmfaaGreatDoor
/-
 Between, turned to this seat: the triangle law of the table.
 No conditions.
-/
namespace Go.Proofs.YthfgccfaildmfaaGreatDoor
open Go Go.Abs Go.PE
set_option linter.unusedVariables false
def Sz (x : Int) : Prop := x = 1152921504606846976 ∨ (-200000000000000000 ≤ x ∧ x ≤ 200000000000000000)
theorem pl_cases {x y : Int} (hx : Sz x) (hy : Sz y) : ((x = 1152921504606846976 ∨ y = 1152921504606846976) ∧ pl x y = 1152921504606846976) ∨ (x < 1000000000000000000 ∧ y < 1000000000000000000 ∧ pl x y = x + y) := by
 unfold pl
 by_cases e : x = 1152921504606846976 ∨ y = 1152921504606846976
 ·exact .inl ⟨e, by rw [if_pos e]⟩
 ·unfold Sz at hx hy
  refine .inr ⟨by omega, by omega, ?_⟩
  rw [if_neg e, wrap_in (by omega) (by omega)]
theorem pl_le_add {x y z : Int} (hx : Sz x) (hy : Sz y) (h : x < 1000000000000000000 → y < 1000000000000000000 → z ≤ x + y) (hz : z ≤ 1152921504606846976) : z ≤ pl x y := by
 rcases pl_cases hx hy with ⟨_, e⟩ | ⟨h1, h2, e⟩
 ·rw [e]; exact hz
 ·rw [e]; exact h h1 h2
theorem le_of_pl {x y z : Int} (hx : Sz x) (hy : Sz y) (h : z ≤ pl x y) (h1 : x < 1000000000000000000) (h2 : y < 1000000000000000000) : z ≤ x + y := by
 rcases pl_cases hx hy with ⟨h3, e⟩ | ⟨_, _, e⟩
 ·omega
 ·rw [e] at h; exact h
def Tri (n k : Nat) (d : Tab) : Prop := ∀ l i j, l < k → l < n → i < n → j < n → d i j ≤ pl (d i l) (d l j)
set_option maxHeartbeats 4000000 in
theorem tri_step {n k : Nat} {d D : Tab} (hs : ∀ i j, i < n → j < n → d i j = 1152921504606846976 ∨ (-100000000000000000 ≤ d i j ∧ d i j ≤ 100000000000000000)) (hD : ∀ i j, i < n → j < n → D i j = min (d i j) (pl (d i k) (d k j)))
  (hz : d k k = 0) (hk : k < n) (h : Tri n k d) : Tri n (k + 1) D := by
 intro l i j hlk hl hi hj
 have S : ∀ i j, i < n → j < n → Sz (d i j) := fun i j hi hj => by have := hs i j hi hj; unfold Sz; omega
 have C : ∀ i l j, i < n → l < n → j < n → _ := fun i l j hi hl hj => pl_cases (S i l hi hl) (S l j hl hj)
 have c1 := C i k j hi hk hj
 have c2 := C i k l hi hk hl
 have c3 := C l k j hl hk hj
 have sij := hs i j hi hj
 have sil := hs i l hi hl
 have slj := hs l j hl hj
 have sik := hs i k hi hk
 have skj := hs k j hk hj
 have skl := hs k l hk hl
 have slk := hs l k hl hk
 have e1 := hD i j hi hj
 have e2 := hD i l hi hl
 have e3 := hD l j hl hj
 refine pl_le_add (by unfold Sz; omega) (by unfold Sz; omega) ?_ (by omega)
 intro f1 f2
 by_cases e : l = k
 ·subst e
  rw [hz] at c2 c3 e2 e3
  omega
 ·have hlk' : l < k := by omega
  have t1 := fun a b => le_of_pl (S i l hi hl) (S l j hl hj) (h l i j hlk' hl hi hj) a b
  have t2 := fun a b => le_of_pl (S k l hk hl) (S l j hl hj) (h l k j hlk' hl hk hj) a b
  have t3 := fun a b => le_of_pl (S i l hi hl) (S l k hl hk) (h l i k hlk' hl hi hk) a b
  have t4 := fun a b => le_of_pl (S k l hk hl) (S l k hl hk) (h l k k hlk' hl hk hk) a b
  rw [hz] at t4
  rcases c1 with ⟨a1, a2⟩ | ⟨a1, a2, a3⟩ <;> rcases c2 with ⟨b1, b2⟩ | ⟨b1, b2, b3⟩ <;> rcases c3 with ⟨g1, g2⟩ | ⟨g1, g2, g3⟩ <;> omega
end Go.Proofs.YthfgccfaildmfaaGreatDoor
/-
 Between, turned to this seat: the table obeys the triangle law when no entry of its diagonal is negative.
 No conditions.
-/
namespace Go.Proofs.YthfgccfaildmfaaGreatDoor
open Go Go.Abs Go.PE
set_option linter.unusedVariables false
theorem addB_le (d : Tab) (c : Int × Int × Int) (a b : Nat) : addB d c a b ≤ d a b := by
 unfold addB upd
 split
 ·rename_i e; rw [e.1, e.2]; exact Int.min_le_left _ _
 ·exact Int.le_refl _
theorem bounds_le : ∀ (cs : List (Int × Int × Int)) (d : Tab) (a b : Nat), cs.foldl addB d a b ≤ d a b
 | [], _, _, _ => Int.le_refl _
 | c :: cs, d, a, b => Int.le_trans (bounds_le cs (addB d c) a b) (addB_le d c a b)
theorem fw_diag {n : Nat} {bs : List (Int × Int × Int)} (h : ovl (fw n bs) n = false) {k i : Nat} (hk : k ≤ n) (hi : i < n) : rounds n (bs.foldl addB d0) k i i = 0 := by
 have h1 : ¬ fw n bs i i < 0 := fun hlt => by
  rw [(ovl_iff _ _).2 ⟨i, hi, hlt⟩] at h; cases h
 have h2 := rounds_le n (bs.foldl addB d0) i i k (n - k)
 have e : k + (n - k) = n := by omega
 rw [e] at h2
 have h3 := rounds_le n (bs.foldl addB d0) i i 0 k
 rw [Nat.zero_add] at h3
 have h4 : bs.foldl addB d0 i i ≤ d0 i i := bounds_le bs d0 i i
 have h5 : d0 i i = 0 := by simp [d0]
 unfold fw at h1
 have h6 : rounds n (bs.foldl addB d0) 0 i i = bs.foldl addB d0 i i := rfl
 omega
theorem rounds_tri {n : Nat} (hn : n ≤ 16) {bs : List (Int × Int × Int)} (hb : bs.all (bnd (n : Int)) = true) (h : ovl (fw n bs) n = false) : ∀ k, k ≤ n → Tri n k (rounds n (bs.foldl addB d0) k)
 | 0, _ => fun l i j hl => by omega
 | k + 1, hk => by
  have h0 := bounds_ent (n := n) (bs := bs) bs d0 (fun c hc => ⟨hc, List.all_eq_true.1 hb c hc⟩) d0_ent
  have hE : EntT bs 100000000000000000 n (rounds n (bs.foldl addB d0) k) := fun i j hi hj => (rounds_ent hn h0 k (by omega) i j hi hj).mono (size_le (by omega))
  have hz := fw_diag h (k := k) (by omega) (show k < n by omega)
  refine tri_step (k := k) (d := rounds n (bs.foldl addB d0) k) (fun i j hi hj => ?_) (fun i j hi hj => round_zero (bs := bs) (by omega) hz (by omega) hE hi hj) hz (by omega) (rounds_tri hn hb h k (by omega))
  rcases hE i j hi hj with e | ⟨e1, e2, _⟩
  ·exact .inl e
  ·exact .inr ⟨e1, e2⟩
theorem fw_tri {n : Nat} (hn : n ≤ 16) {bs : List (Int × Int × Int)} (hb : bs.all (bnd (n : Int)) = true) (h : ovl (fw n bs) n = false) : Tri n n (fw n bs) := rounds_tri hn hb h n (Nat.le_refl _)
end Go.Proofs.YthfgccfaildmfaaGreatDoor
/-
 Between, turned to this seat: the table holds the least sums of walks.
 No conditions.
-/
namespace Go.Proofs.YthfgccfaildmfaaGreatDoor
open Go Go.Abs Go.PE
set_option linter.unusedVariables false
theorem bounds_bound {n : Nat} : ∀ (cs : List (Int × Int × Int)) (d : Tab) (a b : Nat) (m : Int), ((a : Int), (b : Int), m) ∈ cs → cs.foldl addB d a b ≤ m
 | c :: cs, d, a, b, m, h => by
  rcases List.mem_cons.1 h with h | h
  ·subst h
   refine Int.le_trans (bounds_le cs _ a b) ?_
   unfold addB upd
   have ha : ((a : Int)).toNat = a := by omega
   have hb : ((b : Int)).toNat = b := by omega
   simp only [ha, hb, and_self, if_true]
   exact Int.min_le_right _ _
  ·exact bounds_bound (n := n) cs (addB d c) a b m h
theorem fw_bound {n : Nat} {bs : List (Int × Int × Int)} {a b : Nat} {m : Int} (h : ((a : Int), (b : Int), m) ∈ bs) : fw n bs a b ≤ m := by
 have h2 := rounds_le n (bs.foldl addB d0) a b 0 n
 rw [Nat.zero_add] at h2
 exact Int.le_trans h2 (bounds_bound (n := n) bs d0 a b m h)
theorem fw_least {n : Nat} (hn : n ≤ 16) {bs : List (Int × Int × Int)} (hb : bs.all (bnd (n : Int)) = true) (h : ovl (fw n bs) n = false) {i j : Nat} {w : Int} (hi : i < n) (hw : Wk bs i j w) : j < n ∧ fw n bs i j < 1000000000000000000 ∧ fw n bs i j ≤ w := by
 have hE := fw_ent hn hb
 have S : ∀ i j, i < n → j < n → Sz (fw n bs i j) := fun i j hi hj => by
  rcases hE i j hi hj with e | ⟨e1, e2, _⟩
  ·exact .inl e
  ·exact .inr ⟨by omega, by omega⟩
 induction hw with
 | nil =>
  have e : fw n bs i i = 0 := fw_diag h (Nat.le_refl n) hi
  exact ⟨hi, by omega, by omega⟩
 | @snoc a b w m hw hm ih =>
  obtain ⟨ha, hf, hle⟩ := ih
  have hbd := List.all_eq_true.1 hb _ hm
  have hbd := of_decide_eq_true hbd
  have hbn : b < n := by have := hbd.2.2.2.1; simp only at this; omega
  refine ⟨hbn, ?_⟩
  have h1 := fw_bound (n := n) hm
  have h2 := fw_tri hn hb h a i b ha ha hi hbn
  have h3 := hbd.2.2.2.2.2
  simp only at h3
  rcases pl_cases (S i a hi ha) (S a b ha hbn) with ⟨h4 | h4, _⟩ | ⟨_, _, e⟩
  ·omega
  ·omega
  ·rw [e] at h2
   have s1 := S i a hi ha
   have s2 := S i b hi hbn
   unfold Sz at s1 s2
   omega
end Go.Proofs.YthfgccfaildmfaaGreatDoor
/-
 Between, turned to this seat: walks turned around.
 No conditions.
-/
namespace Go.Proofs.YthfgccfaildmfaaGreatDoor
open Go Go.Abs Go.PE
set_option linter.unusedVariables false
theorem Wk.cons {bs : List (Int × Int × Int)} {i a b : Nat} {w m : Int} (hm : ((i : Int), (a : Int), m) ∈ bs) (h : Wk bs a b w) : Wk bs i b (m + w) := by
 have h1 : Wk bs i a (0 + m) := (Wk.nil i).snoc hm
 rw [Int.zero_add] at h1
 exact h1.trans h
end Go.Proofs.YthfgccfaildmfaaGreatDoor
/-
 Between, turned to this seat: hidden situations, situations that are allowed.
 No conditions.
-/
namespace Go.Proofs.YthfgccfaildmfaaGreatDoor
open Go Go.Abs Go.PE
set_option linter.unusedVariables false
abbrev Num := Int × List Int × List (Int × Int × Int) × Int
def i64 (n : Int) : Prop := -9223372036854775808 ≤ n ∧ n ≤ 9223372036854775807
def nH (x : Num) : Nat := 1 + (pk x.1 8).toNat
def hidf (x : Num) (i : Nat) : Int := match x.2.1[i]? with
 | some v => pk v 200 - 100
 | none => 0
def hid (x : Num) : List Int := row (nH x) (hidf x)
def keeps (y : List Int) (c : Int × Int × Int) : Bool := decide (y.getD c.2.1.toNat 0 - y.getD c.1.toNat 0 ≤ c.2.2)
def smallV (v : Int) : Bool := decide (-1000000000000 ≤ v ∧ v ≤ 1000000000000)
def allw (x : Int × List (Int × Int × Int)) (y : List Int) : Bool := sys x && decide ((y.length : Int) = x.1) && y.all smallV && x.2.all (keeps y)
theorem m97_eq (v : Int) : m97 v = some (!smallV v) := by
 unfold m97 m98 smallV
 simp only [Option.bind_some, Bool.decide_and, PE.notM, PE.andM]
theorem idx_getD {y : List Int} {i : Int} (h0 : 0 ≤ i) (h : i < y.length) : idxM y i = some (y.getD i.toNat 0) := by
 rw [idxM_of h0 h]
 congr 1
 rw [List.getD_eq_getElem?_getD, List.getElem?_eq_getElem (by omega)]
 rfl
theorem sys_bnd {x : Int × List (Int × Int × Int)} (h : sys x = true) : (0 ≤ x.1 ∧ x.1 ≤ 16 ∧ x.2.length ≤ 60) ∧ ∀ c ∈ x.2, 0 ≤ c.1 ∧ c.1 < x.1 ∧ 0 ≤ c.2.1 ∧ c.2.1 < x.1 ∧ -1000000000 ≤ c.2.2 ∧ c.2.2 ≤ 1000000000 := by
 unfold sys at h
 rw [Bool.and_eq_true] at h
 refine ⟨of_decide_eq_true h.1, fun c hc => ?_⟩
 exact of_decide_eq_true (List.all_eq_true.1 h.2 c hc)
theorem small_getD {y : List Int} (h : y.all smallV = true) (i : Nat) : -1000000000000 ≤ y.getD i 0 ∧ y.getD i 0 ≤ 1000000000000 := by
 rw [List.getD_eq_getElem?_getD]
 by_cases hi : i < y.length
 ·rw [List.getElem?_eq_getElem hi]
  exact of_decide_eq_true (List.all_eq_true.1 h _ (List.getElem_mem hi))
 ·rw [List.getElem?_eq_none (by omega)]
  decide
theorem m56_eq (x : Int × List (Int × Int × Int)) (y : List Int) : m56 (x, y) = some (allw x y) := by
 unfold m56
 dsimp only
 rw [show (x.1, x.2) = x from rfl, m64_eq, Option.bind_some]
 unfold allw
 by_cases h : sys x = true ∧ (y.length : Int) = x.1
 ·obtain ⟨h1, h2⟩ := h
  have hs := sys_bnd h1
  rw [h1, eqI h2, notT, orF, notF, cond_true, decide_eq_true h2]
  rw [any_loop (xs := y) (fun v => !smallV v)]
  ·rw [Option.bind_some, orF]
   by_cases h3 : y.all smallV = true
   ·have h4 : y.any (fun v => !smallV v) = false := by
     rw [List.any_eq_false]
     intro v hv
     rw [List.all_eq_true.1 h3 v hv]
     decide
    rw [h4, cond_false, h3]
    have hsm := small_getD h3
    obtain ⟨o, e1, e2⟩ := find_loop (xs := x.2) (fun c => !keeps y c) (body := fun (s : Int) =>
         bif ltM s (lenM x.2) then
          Option.bind (idxM x.2 s) fun (r_1 : Int × Int × Int) =>
           Option.bind (idxM y r_1.2.1) fun (r_2 : Int) =>
            Option.bind (idxM y r_1.1) fun (r : Int) =>
             bif ltM r_1.2.2 (IntKind.wrap IntKind.i64 (r_2 - r)) then some (Sum.inr (Sum.inr s))
             else some (Sum.inl (IntKind.wrap IntKind.i64 (s + (1 : Int))))
         else some (Sum.inr (Sum.inl ()))) (fun k hk => by
      obtain ⟨g1, g2, g3, g4, _⟩ := hs.2 _ (List.getElem_mem hk)
      rw [ltI (by show (k : Int) < (x.2.length : Int); omega), cond_true, idxM_lt hk, Option.bind_some, idx_getD g3 (by omega), Option.bind_some, idx_getD g1 (by omega), Option.bind_some]
      have u1 := hsm x.2[k].1.toNat
      have u2 := hsm x.2[k].2.1.toNat
      rw [wrap_in (n := y.getD x.2[k].2.1.toNat 0 - y.getD x.2[k].1.toNat 0) (by omega) (by omega), wrap_in (by omega) (by omega)]
      unfold keeps
      by_cases e : y.getD x.2[k].2.1.toNat 0 - y.getD x.2[k].1.toNat 0 ≤ x.2[k].2.2
      ·rw [geI e, decide_eq_true e]; rfl
      ·rw [ltI (by omega), decide_eq_false e]; rfl) (by
      rw [geI (Int.le_refl _)]; rfl)
    rw [e1, Option.bind_some]
    rcases e2 with ⟨rfl, e2⟩ | ⟨k, hk, rfl, e2, _⟩
    ·have : x.2.all (keeps y) = true := List.all_eq_true.2 fun c hc => by
      obtain ⟨i, hi, rfl⟩ := List.mem_iff_getElem.1 hc
      have := e2 i hi
      simpa using this
     rw [this]
     rfl
    ·have : x.2.all (keeps y) = false := by
      rw [Bool.eq_false_iff]
      intro hall
      have := List.all_eq_true.1 hall _ (List.getElem_mem hk)
      rw [this] at e2
      cases e2
     rw [this]
     show some (PE.notM (decide ((0 : Int) ≤ (k : Int)))) = _
     rw [decide_eq_true (by omega)]
     rfl
   ·have h4 : y.any (fun v => !smallV v) = true := by
     rw [List.all_eq_not_any_not] at h3
     simpa using h3
    rw [h4, cond_true]
    have : y.all smallV = false := by simpa using h3
    rw [this]
    simp
  ·intro k hk
   rw [ltI (by show (k : Int) < (y.length : Int); omega), cond_true, idxM_lt hk, Option.bind_some, m97_eq, Option.bind_some, wrap_in (by omega) (by omega)]
   cases smallV y[k] <;> rfl
  ·rw [geI (Int.le_refl _)]; rfl
 ·have e : PE.orM (PE.notM (sys x)) (PE.notM (eqM (lenM y) x.1)) = true := by
   by_cases h1 : sys x = true
   ·have h2 : ¬ (y.length : Int) = x.1 := fun h2 => h ⟨h1, h2⟩
    rw [h1, neI h2]; rfl
   ·have : sys x = false := by simpa using h1
    rw [this]; rfl
  rw [e, notT, cond_false, Option.bind_some]
  show some false = _
  have : (sys x && decide ((y.length : Int) = x.1)) = false := by
   rw [Bool.eq_false_iff]
   intro h'
   rw [Bool.and_eq_true] at h'
   exact h ⟨h'.1, of_decide_eq_true h'.2⟩
  rw [this]
  rfl
end Go.Proofs.YthfgccfaildmfaaGreatDoor
/-
 Between, turned to this seat: the bounds that integers determine.
 No conditions.
-/
namespace Go.Proofs.YthfgccfaildmfaaGreatDoor
open Go Go.Abs Go.PE
set_option linter.unusedVariables false
def less (x : Num) (c : Int × Int × Int) : Int × Int × Int := (c.1, c.2.1, c.2.2 - 10 - pk (x.2.2.2.tdiv 60) 60)
theorem row_mem {α : Type} {m : Nat} {g : Nat → α} {a : α} (h : a ∈ row m g) : ∃ i, i < m ∧ g i = a := by
 obtain ⟨i, hi⟩ := List.mem_iff_getElem?.1 h
 by_cases h' : i < m
 ·rw [row_get h'] at hi; exact ⟨i, h', by simpa using hi⟩
 ·rw [List.getElem?_eq_none (by rw [row_length]; omega)] at hi; cases hi
end Go.Proofs.YthfgccfaildmfaaGreatDoor
/-
 Between, turned to this seat: what is allowed keeps all walks; contradictions; bounds turned around.
 No conditions.
-/
namespace Go.Proofs.YthfgccfaildmfaaGreatDoor
open Go Go.Abs Go.PE
set_option linter.unusedVariables false
abbrev Sys := Int × List (Int × Int × Int)
def ovS (x : Sys) : Bool := ovl (fw x.1.toNat x.2) x.1.toNat
def fwS (x : Sys) : Tab := fw x.1.toNat x.2
theorem sys_all {x : Sys} (h : sys x = true) : x.1.toNat ≤ 16 ∧ x.2.all (bnd (x.1.toNat : Int)) = true ∧ ((x.1.toNat : Nat) : Int) = x.1 := by
 have hs := sys_bnd h
 have e : ((x.1.toNat : Nat) : Int) = x.1 := by omega
 refine ⟨by omega, ?_, e⟩
 rw [e]
 unfold sys at h
 rw [Bool.and_eq_true] at h
 exact h.2
theorem walk_stays {n : Nat} {bs : List (Int × Int × Int)} (hb : bs.all (bnd (n : Int)) = true) {i j : Nat} {w : Int} (hi : i < n) (h : Wk bs i j w) : j < n := by
 induction h with
 | nil => exact hi
 | snoc _ hm _ =>
  have := of_decide_eq_true (List.all_eq_true.1 hb _ hm)
  simp only at this
  omega
theorem keep_walk {bs : List (Int × Int × Int)} {f : Nat → Int} (hk : ∀ a b : Nat, ∀ m : Int, ((a : Int), (b : Int), m) ∈ bs → f b - f a ≤ m) {i j : Nat} {w : Int} (h : Wk bs i j w) : f j - f i ≤ w := by
 induction h with
 | nil => omega
 | snoc _ hm ih => have := hk _ _ _ hm; omega
theorem allw_keep {x : Sys} {y : List Int} (h : allw x y = true) {a b : Nat} {m : Int} (hm : ((a : Int), (b : Int), m) ∈ x.2) : y.getD b 0 - y.getD a 0 ≤ m := by
 unfold allw at h
 rw [Bool.and_eq_true] at h
 have := of_decide_eq_true (List.all_eq_true.1 h.2 _ hm)
 exact this
theorem allw_parts {x : Sys} {y : List Int} (h : allw x y = true) : sys x = true ∧ (y.length : Int) = x.1 ∧ y.all smallV = true := by
 unfold allw at h
 rw [Bool.and_eq_true, Bool.and_eq_true, Bool.and_eq_true] at h
 exact ⟨h.1.1.1, of_decide_eq_true h.1.1.2, h.1.2⟩
theorem allw_of {x : Sys} {y : List Int} (h1 : sys x = true) (h2 : (y.length : Int) = x.1) (h3 : ∀ i, i < y.length → -1000000000000 ≤ y.getD i 0 ∧ y.getD i 0 ≤ 1000000000000) (h4 : ∀ a b : Nat, ∀ m : Int, ((a : Int), (b : Int), m) ∈ x.2 → y.getD b 0 - y.getD a 0 ≤ m) : allw x y = true := by
 unfold allw
 rw [h1, decide_eq_true h2]
 simp only [Bool.true_and, Bool.and_eq_true]
 refine ⟨List.all_eq_true.2 fun v hv => ?_, List.all_eq_true.2 fun c hc => decide_eq_true ?_⟩
 ·obtain ⟨i, hi, rfl⟩ := List.mem_iff_getElem.1 hv
  have := h3 i hi
  rw [List.getD_eq_getElem?_getD, List.getElem?_eq_getElem hi] at this
  exact decide_eq_true this
 ·have hb := (sys_bnd h1).2 c hc
  refine h4 _ _ _ ?_
  have e1 : ((c.1.toNat : Nat) : Int) = c.1 := by omega
  have e2 : ((c.2.1.toNat : Nat) : Int) = c.2.1 := by omega
  rw [e1, e2]
  exact hc
theorem ov_walk {x : Sys} (hs : sys x = true) (h : ovS x = true) : ∃ i w, i < x.1.toNat ∧ w < 0 ∧ Wk x.2 i i w := by
 obtain ⟨hn, hb, _⟩ := sys_all hs
 obtain ⟨i, hi, hlt⟩ := (ovl_iff _ _).1 h
 rcases fw_ent hn hb i i hi hi with e | ⟨_, _, e⟩
 ·omega
 ·exact ⟨i, _, hi, hlt, e⟩
theorem ov_of_walk {x : Sys} (hs : sys x = true) {i : Nat} {w : Int} (hi : i < x.1.toNat) (hw : w < 0) (h : Wk x.2 i i w) : ovS x = true := by
 obtain ⟨hn, hb, _⟩ := sys_all hs
 cases hov : ovS x with
 | true => rfl
 | false =>
  obtain ⟨_, _, h3⟩ := fw_least hn hb hov hi h
  have := fw_diag (bs := x.2) hov (Nat.le_refl _) hi
  have e : fw x.1.toNat x.2 i i = rounds x.1.toNat (x.2.foldl addB d0) x.1.toNat i i := rfl
  omega
theorem fw_cases {x : Sys} (hs : sys x = true) (ho : ovS x = false) {i j : Nat} (hi : i < x.1.toNat) (hj : j < x.1.toNat) :
  (fwS x i j = 1152921504606846976 ∧ ∀ w, ¬ Wk x.2 i j w) ∨ (-100000000000000000 ≤ fwS x i j ∧ fwS x i j ≤ 100000000000000000 ∧ Wk x.2 i j (fwS x i j) ∧ ∀ w, Wk x.2 i j w → fwS x i j ≤ w) := by
 obtain ⟨hn, hb, _⟩ := sys_all hs
 rcases fw_ent hn hb i j hi hj with e | ⟨e1, e2, e3⟩
 ·refine .inl ⟨e, fun w hw => ?_⟩
  have := (fw_least hn hb ho hi hw).2.1
  omega
 ·exact .inr ⟨e1, e2, e3, fun w hw => (fw_least hn hb ho hi hw).2.2⟩
theorem fw_self {x : Sys} (ho : ovS x = false) {i : Nat} (hi : i < x.1.toNat) : fwS x i i = 0 := fw_diag (bs := x.2) ho (Nat.le_refl _) hi
theorem m25_good {x : Sys} (hs : sys x = true) (h : ovS x = false) : m25 x = some (rt x.1.toNat (fun _ => x.1.toNat) (fwS x), 0) := by
 rw [m25_eq, hs]
 unfold ovS at h
 rw [h]
 rfl
theorem row_getD {m : Nat} {g : Nat → Int} {i : Nat} (h : i < m) : (row m g).getD i 0 = g i := by
 rw [List.getD_eq_getElem?_getD, row_get h]
 rfl
theorem allw_row {x : Sys} {g : Nat → Int} (h1 : sys x = true) : allw x (row x.1.toNat g) = true ↔ (∀ i, i < x.1.toNat → -1000000000000 ≤ g i ∧ g i ≤ 1000000000000) ∧ ∀ a b : Nat, ∀ m : Int, ((a : Int), (b : Int), m) ∈ x.2 → g b - g a ≤ m := by
 obtain ⟨hn, hb, he⟩ := sys_all h1
 have hlt : ∀ {a b : Nat} {m : Int}, ((a : Int), (b : Int), m) ∈ x.2 → a < x.1.toNat ∧ b < x.1.toNat := fun hm => by
  have := (sys_bnd h1).2 _ hm
  simp only at this
  omega
 constructor
 ·intro h
  obtain ⟨_, _, h3⟩ := allw_parts h
  refine ⟨fun i hi => ?_, fun a b m hm => ?_⟩
  ·have := small_getD h3 i
   rw [row_getD hi] at this
   exact this
  ·have := allw_keep h hm
   have l := hlt hm
   rw [row_getD l.1, row_getD l.2] at this
   exact this
 ·intro ⟨h2, h3⟩
  refine allw_of h1 (by rw [row_length]; exact he) (fun i hi => ?_) fun a b m hm => ?_
  ·rw [row_length] at hi
   rw [row_getD hi]
   exact h2 i hi
  ·have l := hlt hm
   rw [row_getD l.1, row_getD l.2]
   exact h3 a b m hm
end Go.Proofs.YthfgccfaildmfaaGreatDoor
/-
 Between, turned to this seat: the law BetweenMirrors.
 No conditions.
-/
namespace Go.Proofs.YthfgccfaildmfaaGreatDoor
open Go Go.Abs Go.PE
set_option linter.unusedVariables false
end Go.Proofs.YthfgccfaildmfaaGreatDoor
/-
 Between, turned to this seat: Solve; systems of small bounds.
 No conditions.
-/
namespace Go.Proofs.YthfgccfaildmfaaGreatDoor
open Go Go.Abs Go.PE
set_option linter.unusedVariables false
def solf (d : Tab) : Nat → Nat → Int
 | 0, _ => 0
 | i + 1, k => min (solf d i k) (d i k)
def sol (x : Sys) (k : Nat) : Int := solf (fwS x) x.1.toNat k
end Go.Proofs.YthfgccfaildmfaaGreatDoor
/-
 Between, turned to this seat: the law BetweenSolves.
 No conditions.
-/
namespace Go.Proofs.YthfgccfaildmfaaGreatDoor
open Go Go.Abs Go.PE
set_option linter.unusedVariables false
end Go.Proofs.YthfgccfaildmfaaGreatDoor
/-
 Between, turned to this seat: the law BetweenLeast.
 No conditions.
-/
namespace Go.Proofs.YthfgccfaildmfaaGreatDoor
open Go Go.Abs Go.PE
set_option linter.unusedVariables false
def there (x : Sys) (k i : Nat) : Int := if fwS x k i = 1152921504606846976 then 1000000000 + sol x i else fwS x k i
end Go.Proofs.YthfgccfaildmfaaGreatDoor
/-
 Between, turned to this seat: walks of a given number of bounds; short walks.
 No conditions.
-/
namespace Go.Proofs.YthfgccfaildmfaaGreatDoor
open Go Go.Abs Go.PE
set_option linter.unusedVariables false
inductive WN (bs : List (Int × Int × Int)) : Nat → Nat → Nat → Int → Prop
 | nil (i : Nat) : WN bs i i 0 0
 | cons {i a j m : Nat} {c w : Int} : ((i : Int), (a : Int), c) ∈ bs → WN bs a j m w → WN bs i j (m + 1) (c + w)
section
variable {bs : List (Int × Int × Int)}
theorem WN.one {i a : Nat} {c : Int} (h : ((i : Int), (a : Int), c) ∈ bs) : WN bs i a 1 c := by
 have := WN.cons h (WN.nil a)
 rw [Int.add_zero] at this
 exact this
theorem WN.trans {i j k m m' : Nat} {w w' : Int} (h : WN bs i j m w) (h2 : WN bs j k m' w') : WN bs i k (m + m') (w + w') := by
 induction h with
 | nil => rw [Nat.zero_add, Int.zero_add]; exact h2
 | @cons i a j m c w hm _ ih =>
  rw [Nat.add_right_comm, Int.add_assoc]
  exact .cons hm (ih h2)
theorem WN.snoc {i a b m : Nat} {w c : Int} (h : WN bs i a m w) (hm : ((a : Int), (b : Int), c) ∈ bs) : WN bs i b (m + 1) (w + c) := h.trans (.one hm)
theorem WN.wk {i j m : Nat} {w : Int} (h : WN bs i j m w) : Wk bs i j w := by
 induction h with
 | nil => exact .nil _
 | cons hm _ ih => exact Wk.cons hm ih
theorem Wk.wn {i j : Nat} {w : Int} (h : Wk bs i j w) : ∃ m, WN bs i j m w := by
 induction h with
 | nil => exact ⟨0, .nil _⟩
 | snoc _ hm ih =>
  obtain ⟨m, h⟩ := ih
  exact ⟨m + 1, h.snoc hm⟩
theorem WN.zero {i j : Nat} {w : Int} (h : WN bs i j 0 w) : i = j ∧ w = 0 := by
 cases h
 exact ⟨rfl, rfl⟩
theorem WN.last {i j m : Nat} {w : Int} (h : WN bs i j (m + 1) w) : ∃ a c w', WN bs i a m w' ∧ ((a : Int), (j : Int), c) ∈ bs ∧ w = w' + c := by
 generalize hk : m + 1 = k at h
 induction h generalizing m with
 | nil => omega
 | @cons i a j m' c w hm h1 ih =>
  cases m with
  | zero =>
   have : m' = 0 := by omega
   subst this
   obtain ⟨rfl, rfl⟩ := h1.zero
   exact ⟨i, c, 0, .nil _, hm, by omega⟩
  | succ m =>
   obtain ⟨b, c', w', h2, h3, h4⟩ := ih (m := m) (by omega)
   exact ⟨b, c', c + w', .cons hm h2, h3, by omega⟩
theorem WN.stations {i j m : Nat} {w : Int} (h : WN bs i j m w) : ∃ (v : Nat → Nat) (s : Nat → Int), v 0 = i ∧ v m = j ∧ s 0 = 0 ∧ s m = w ∧ ∀ k, k < m → ((v k : Int), (v (k + 1) : Int), s (k + 1) - s k) ∈ bs := by
 induction h with
 | nil i => exact ⟨fun _ => i, fun _ => 0, rfl, rfl, rfl, rfl, fun k hk => by omega⟩
 | @cons i a j m c w hm _ ih =>
  obtain ⟨v, s, h0, h1, h2, h3, h4⟩ := ih
  refine ⟨fun k => match k with | 0 => i | k + 1 => v k, fun k => match k with | 0 => 0 | k + 1 => c + s k, rfl, h1, rfl, by show c + s m = _; rw [h3], fun k hk => ?_⟩
  cases k with
  | zero =>
   show ((i : Int), (v 0 : Int), c + s 0 - 0) ∈ bs
   rw [h0, h2, Int.add_zero, Int.sub_zero]
   exact hm
  | succ k =>
   have := h4 k (by omega)
   show ((v k : Int), (v (k + 1) : Int), c + s (k + 1) - (c + s k)) ∈ bs
   have e : c + s (k + 1) - (c + s k) = s (k + 1) - s k := by omega
   rw [e]
   exact this
theorem seg {m : Nat} {v : Nat → Nat} {s : Nat → Int} (h : ∀ k, k < m → ((v k : Int), (v (k + 1) : Int), s (k + 1) - s k) ∈ bs) (a : Nat) : ∀ d, a + d ≤ m → WN bs (v a) (v (a + d)) d (s (a + d) - s a)
 | 0, _ => by
  have e : s (a + 0) - s a = 0 := by rw [Nat.add_zero]; omega
  rw [e]
  exact .nil _
 | d + 1, hd => by
  have h1 := (seg h a d (by omega)).snoc (h (a + d) (by omega))
  have e : s (a + d) - s a + (s (a + d + 1) - s (a + d)) = s (a + (d + 1)) - s a := by rw [Nat.add_assoc]; omega
  rw [e] at h1
  exact h1
end
theorem pigeon : ∀ (n : Nat) (v : Nat → Nat), (∀ k, k ≤ n → v k < n) → ∃ a b, a < b ∧ b ≤ n ∧ v a = v b
 | 0, v, h => absurd (h 0 (Nat.le_refl _)) (Nat.not_lt_zero _)
 | n + 1, v, h => by
  by_cases hx : ∃ k, k ≤ n ∧ v k = v (n + 1)
  ·obtain ⟨k, hk, e⟩ := hx
   exact ⟨k, n + 1, by omega, Nat.le_refl _, e⟩
  ·have hne : ∀ k, k ≤ n → v k ≠ v (n + 1) := fun k hk e => hx ⟨k, hk, e⟩
   obtain ⟨a, b, hab, hb, e⟩ := pigeon n (fun k => if v k = n then v (n + 1) else v k) (fun k hk => by
    have h1 := h k (by omega)
    have h2 := h (n + 1) (Nat.le_refl _)
    have h3 := hne k hk
    split <;> omega)
   refine ⟨a, b, hab, by omega, ?_⟩
   have h1 := hne a (by omega)
   have h2 := hne b hb
   split at e <;> split at e <;> omega
theorem WN.stays {n : Nat} {bs : List (Int × Int × Int)} (hb : bs.all (bnd (n : Int)) = true) {i j m : Nat} {w : Int} (hi : i < n) (h : WN bs i j m w) : j < n := walk_stays hb hi h.wk
theorem WN.cut {n : Nat} {bs : List (Int × Int × Int)} (hb : bs.all (bnd (n : Int)) = true) {i j m : Nat} {w : Int} (hi : i < n) (hm : n ≤ m) (h : WN bs i j m w) :
  ∃ u m1 m2 m3 w1 w2 w3, u < n ∧ 1 ≤ m2 ∧ m2 ≤ n ∧ m1 + m2 + m3 = m ∧ w = w1 + w2 + w3 ∧ WN bs i u m1 w1 ∧ WN bs u u m2 w2 ∧ WN bs u j m3 w3 := by
 obtain ⟨v, s, h0, h1, h2, h3, h4⟩ := h.stations
 have hv : ∀ k, k ≤ m → v k < n := fun k hk => by
  have := seg h4 0 k (by omega)
  rw [Nat.zero_add, h0] at this
  exact this.stays hb hi
 obtain ⟨a, b, hab, hbn, e⟩ := pigeon n v fun k hk => hv k (by omega)
 have s1 := seg h4 0 a (by omega)
 have s2 := seg h4 a (b - a) (by omega)
 have s3 := seg h4 b (m - b) (by omega)
 rw [Nat.zero_add, h0, h2] at s1
 rw [show a + (b - a) = b by omega, ← e] at s2
 rw [show b + (m - b) = m by omega, h1, h3, ← e] at s3
 exact ⟨v a, a, b - a, m - b, _, _, _, hv a (by omega), by omega, by omega, by omega, by omega, s1, s2, s3⟩
theorem WN.short {n : Nat} {bs : List (Int × Int × Int)} (hb : bs.all (bnd (n : Int)) = true) (hno : ∀ u m w, u < n → WN bs u u m w → 0 ≤ w) {i j : Nat} (hi : i < n) : ∀ {m : Nat} {w : Int}, WN bs i j m w → ∃ m' w', m' < n ∧ w' ≤ w ∧ WN bs i j m' w' := by
 intro m
 induction m using Nat.strongRecOn with
 | ind m ih =>
  intro w h
  by_cases hm : m < n
  ·exact ⟨m, w, hm, Int.le_refl _, h⟩
  ·obtain ⟨u, m1, m2, m3, w1, w2, w3, hu, g1, _, g2, g3, g4, g5, g6⟩ := h.cut hb hi (by omega)
   have := hno u m2 w2 hu g5
   obtain ⟨m', w', k1, k2, k3⟩ := ih (m1 + m3) (by omega) (g4.trans g6)
   exact ⟨m', w', k1, by omega, k3⟩
end Go.Proofs.YthfgccfaildmfaaGreatDoor
/-
 Between, turned to this seat: the tables of the least sums of walks of a given number of bounds.
 No conditions.
-/
namespace Go.Proofs.YthfgccfaildmfaaGreatDoor
open Go Go.Abs Go.PE
set_option linter.unusedVariables false
def farT : Tab := fun _ _ => 1152921504606846976
def addW (d t : Tab) (c : Int × Int × Int) : Tab := fun i j => if j = c.2.1.toNat then min (t i j) (pl (d i c.1.toNat) c.2.2) else t i j
def nxt (bs : List (Int × Int × Int)) (d : Tab) : Tab := bs.foldl (addW d) farT
def wkT (bs : List (Int × Int × Int)) : Nat → Tab
 | 0 => d0
 | m + 1 => nxt bs (wkT bs m)
end Go.Proofs.YthfgccfaildmfaaGreatDoor
/-
 Between, turned to this seat: the next table of walks is what the model computes.
 No conditions.
-/
namespace Go.Proofs.YthfgccfaildmfaaGreatDoor
open Go Go.Abs Go.PE
set_option linter.unusedVariables false
end Go.Proofs.YthfgccfaildmfaaGreatDoor
/-
 Between, turned to this seat: the first chain, as the model computes it.
 No conditions.
-/
namespace Go.Proofs.YthfgccfaildmfaaGreatDoor
open Go Go.Abs Go.PE
set_option linter.unusedVariables false
def stp (bs : List (Int × Int × Int)) (to m f : Nat) (q : Int) (c : Int × Int × Int) : Bool := decide (c.1 = (f : Int)) && decide (pl c.2.2 (wkT bs m c.2.1.toNat to) ≤ q)
theorem getD_of {α : Type} {xs : List α} {k : Nat} {z : α} (h : k < xs.length) : xs.getD k z = xs[k] := by
 rw [List.getD_eq_getElem?_getD, List.getElem?_eq_getElem h]
 rfl
section
variable {n : Nat} {bs : List (Int × Int × Int)} (hb : bs.all (bnd (n : Int)) = true)
include hb
end
end Go.Proofs.YthfgccfaildmfaaGreatDoor
/-
 Between, turned to this seat: what follows a list of bounds; what CheckChain and CheckCycle accept.
 No conditions.
-/
namespace Go.Proofs.YthfgccfaildmfaaGreatDoor
open Go Go.Abs Go.PE
set_option linter.unusedVariables false
end Go.Proofs.YthfgccfaildmfaaGreatDoor
/-
 Between, turned to this seat: Implied, as the model computes it.
 No conditions.
-/
namespace Go.Proofs.YthfgccfaildmfaaGreatDoor
open Go Go.Abs Go.PE
set_option linter.unusedVariables false
end Go.Proofs.YthfgccfaildmfaaGreatDoor
/-
 Between, turned to this seat: equality of lists and tables; a further bound; the law BetweenMore.
 No conditions.
-/
namespace Go.Proofs.YthfgccfaildmfaaGreatDoor
open Go Go.Abs Go.PE
set_option linter.unusedVariables false
theorem all_loop {n : Nat} (p : Nat → Bool) {body : Int → Option (Int ⊕ (Unit ⊕ Bool))} (hb : ∀ k, k < n → body (k : Int) = some (bif p k then .inl ((k : Int) + 1) else .inr (.inr false))) (he : body (n : Int) = some (.inr (.inl ()))) :
  ∃ b : Bool, loopM body 0 = some (bif b then .inl () else .inr false) ∧ (b = true ↔ ∀ k, k < n → p k = true) := by
 obtain ⟨o, h1, h2⟩ := loopM_from (body := body) (fun k s => s = (k : Int) ∧ ∀ j, j < k → p j = true) (fun o => (o = .inl () ∧ ∀ k, k < n → p k = true) ∨ (o = .inr false ∧ ∃ k, k < n ∧ p k = false)) n (s := 0) ⟨rfl, fun j hj => by omega⟩ fun k s hk ⟨hs, hP⟩ => by
  subst hs
  by_cases hlt : k < n
  ·cases hp : p k with
   | true =>
    refine .inl ⟨((k + 1 : Nat) : Int), hlt, by rw [hb k hlt, hp]; rfl, rfl, fun j hj => ?_⟩
    by_cases e : j = k
    ·subst e; exact hp
    ·exact hP j (by omega)
   | false => exact .inr ⟨_, by rw [hb k hlt, hp]; rfl, .inr ⟨rfl, k, hlt, hp⟩⟩
  ·have e : k = n := by omega
   subst e
   exact .inr ⟨_, he, .inl ⟨rfl, hP⟩⟩
 rcases h2 with ⟨rfl, h2⟩ | ⟨rfl, k, hk, h2⟩
 ·exact ⟨true, h1, by simpa using h2⟩
 ·refine ⟨false, h1, ?_⟩
  constructor
  ·intro h; cases h
  ·intro h; rw [h k hk] at h2; cases h2
theorem Wk.mono {bs bs' : List (Int × Int × Int)} (hs : ∀ c, c ∈ bs → c ∈ bs') {i j : Nat} {w : Int} (h : Wk bs i j w) : Wk bs' i j w := by
 induction h with
 | nil => exact .nil _
 | snoc _ hm ih => exact ih.snoc (hs _ hm)
theorem fw_far {x : Sys} (hs : sys x = true) (ho : ovS x = false) {i j : Nat} (hi : i < x.1.toNat) (hj : j < x.1.toNat) : fwS x i j ≤ 1152921504606846976 := by
 rcases fw_cases hs ho hi hj with ⟨e, _⟩ | ⟨_, e, _⟩ <;> omega
theorem fw_tri' {x : Sys} (hs : sys x = true) (ho : ovS x = false) {i k j : Nat} (hi : i < x.1.toNat) (hk : k < x.1.toNat) (hj : j < x.1.toNat) (h1 : fwS x i k < 1000000000000000000) (h2 : fwS x k j < 1000000000000000000) : fwS x i j ≤ fwS x i k + fwS x k j := by
 obtain ⟨hn, hb, _⟩ := sys_all hs
 rcases fw_cases hs ho hi hk with ⟨e, _⟩ | ⟨_, _, e, _⟩
 ·omega
 ·rcases fw_cases hs ho hk hj with ⟨e', _⟩ | ⟨_, _, e', _⟩
  ·omega
  ·exact (fw_least hn hb ho hi (e.trans e')).2.2
end Go.Proofs.YthfgccfaildmfaaGreatDoor
/-
 Between, turned to this seat: the law BetweenMore.
 No conditions.
-/
namespace Go.Proofs.YthfgccfaildmfaaGreatDoor
open Go Go.Abs Go.PE
set_option linter.unusedVariables false
end Go.Proofs.YthfgccfaildmfaaGreatDoor
/-
 Between, turned to this seat: the law BetweenImplies.
 No conditions.
-/
namespace Go.Proofs.YthfgccfaildmfaaGreatDoor
open Go Go.Abs Go.PE
set_option linter.unusedVariables false
def short (l : List Int) : List Int := l.take (min l.length 20)
end Go.Proofs.YthfgccfaildmfaaGreatDoor
/-
 Between, turned to this seat: Cycle, as the model computes it.
 No conditions.
-/
namespace Go.Proofs.YthfgccfaildmfaaGreatDoor
open Go Go.Abs Go.PE
set_option linter.unusedVariables false
end Go.Proofs.YthfgccfaildmfaaGreatDoor
/-
 Between, turned to this seat: the first contradiction is one of which no bound can be left out; the law BetweenContradicts.
 No conditions.
-/
namespace Go.Proofs.YthfgccfaildmfaaGreatDoor
open Go Go.Abs Go.PE
set_option linter.unusedVariables false
end Go.Proofs.YthfgccfaildmfaaGreatDoor
/-
 Dating: orders, as the models compute them: formed ones, the closure.
 No conditions.
-/
namespace Go.Proofs.YthfgccfaildmfaaGreatDoor
open Go Go.Abs Go.PE
open Ord (Rel clos)
set_option linter.unusedVariables false
set_option maxRecDepth 10000
def pok (n : Int) (p : Int × Int) : Bool := decide (0 ≤ p.1 ∧ p.1 < n ∧ 0 ≤ p.2 ∧ p.2 < n ∧ p.1 ≠ p.2)
def frm (o : Int × List (Int × Int)) : Bool := decide (0 ≤ o.1 ∧ o.1 ≤ 8 ∧ o.2.length ≤ 28) && o.2.all (pok o.1)
theorem frm_of {o : Int × List (Int × Int)} (h : frm o = true) : 0 ≤ o.1 ∧ o.1 ≤ 8 ∧ o.2.length ≤ 28 ∧ ∀ p ∈ o.2, pok o.1 p = true := by
 unfold frm at h
 simp only [Bool.and_eq_true, decide_eq_true_eq, List.all_eq_true] at h
 exact ⟨h.1.1, h.1.2.1, h.1.2.2, h.2⟩
theorem pok_of {n : Int} {p : Int × Int} (h : pok n p = true) : 0 ≤ p.1 ∧ p.1 < n ∧ 0 ≤ p.2 ∧ p.2 < n ∧ p.1 ≠ p.2 := of_decide_eq_true h
theorem m106_eq (o : Int × List (Int × Int)) : m106 o = some (frm o) := by
 unfold m106
 by_cases h1 : 0 ≤ o.1 ∧ o.1 ≤ 8 ∧ o.2.length ≤ 28
 ·obtain ⟨h2, h3, h4⟩ := h1
  have e : PE.orM (PE.orM (ltM o.1 (0 : Int)) (ltM (8 : Int) o.1)) (ltM (28 : Int) (lenM o.2)) = false := by
   rw [geI h2, geI h3, orF, orF]
   exact geI (by show (o.2.length : Int) ≤ 28; omega)
  rw [e, cond_false]
  have hl := find_loop (xs := o.2) (fun p => !pok o.1 p) (body := fun (s : Int) => bif ltM s (lenM o.2) then Option.bind (idxM o.2 s) fun (r : Int × Int) => bif PE.orM (PE.orM (ltM (min r.1 r.2) (0 :
 Int)) (leM o.1 (max r.1 r.2))) (eqM r.1 r.2) then some (Sum.inr (Sum.inr s)) else some (Sum.inl (IntKind.wrap IntKind.i64 (s + (1 : Int)))) else some (Sum.inr
 (Sum.inl ()))) (fun k hk => by
   rw [ltI (by show (k : Int) < (o.2.length : Int); omega), cond_true, idxM_lt hk, Option.bind_some]
   have e2 : PE.orM (PE.orM (ltM (min o.2[k].1 o.2[k].2) (0 : Int)) (leM o.1 (max o.2[k].1 o.2[k].2))) (eqM o.2[k].1 o.2[k].2) = !pok o.1 o.2[k] := by
    rw [Bool.eq_iff_iff]
    unfold pok
    show ((decide _ || decide _) || decide _) = true ↔ _
    simp only [Bool.or_eq_true, decide_eq_true_eq, Bool.not_eq_true', decide_eq_false_iff_not]
    omega
   rw [e2, wrap_in (by omega) (by omega)]
   cases pok o.1 o.2[k] <;> rfl) (by
   rw [geI (by show (o.2.length : Int) ≤ (o.2.length : Int); omega)]; rfl)
  obtain ⟨r, hr, hr2⟩ := hl
  rw [hr]
  unfold frm
  rw [decide_eq_true ⟨h2, h3, h4⟩, Bool.true_and]
  rcases hr2 with ⟨rfl, hr2⟩ | ⟨k, hk, rfl, hr2, _⟩
  ·have : o.2.all (pok o.1) = true := by
    rw [List.all_eq_true]
    intro p hp
    obtain ⟨k, hk, rfl⟩ := List.mem_iff_getElem.1 hp
    have := hr2 k hk
    simpa using this
   rw [this]; rfl
  ·have : o.2.all (pok o.1) = false := by
    rw [List.all_eq_false]
    exact ⟨_, List.getElem_mem hk, by simpa using hr2⟩
   rw [this]
   show some (PE.notM (leM 0 (k : Int))) = _
   rw [leI (by omega)]; rfl
 ·have e : PE.orM (PE.orM (ltM o.1 (0 : Int)) (ltM (8 : Int) o.1)) (ltM (28 : Int) (lenM o.2)) = true := by
   show ((decide _ || decide _) || decide (28 < (o.2.length : Int))) = true
   simp only [Bool.or_eq_true, decide_eq_true_eq]
   omega
  rw [e, cond_true]
  unfold frm
  rw [decide_eq_false (by omega), Bool.false_and]
def rel0 (l : List (Int × Int)) : Rel := fun a b => l.any fun p => decide (p.1 = (a : Int) ∧ p.2 = (b : Int))
def rl (o : Int × List (Int × Int)) : Rel := clos (rel0 o.2) o.1.toNat
def acy (o : Int × List (Int × Int)) : Bool := (List.range o.1.toNat).all fun a => !rl o a a
def okO (o : Int × List (Int × Int)) : Bool := frm o && acy o
theorem rel0_iff {l : List (Int × Int)} {a b : Nat} : rel0 l a b = true ↔ ((a : Int), (b : Int)) ∈ l := by
 unfold rel0
 rw [List.any_eq_true]
 constructor
 ·rintro ⟨p, hp, h⟩
  have h := of_decide_eq_true h
  have : p = ((a : Int), (b : Int)) := Prod.ext h.1 h.2
  rw [← this]; exact hp
 ·intro h
  exact ⟨_, h, decide_eq_true ⟨rfl, rfl⟩⟩
theorem clos_in {o : Int × List (Int × Int)} (h : frm o = true) {k a b : Nat} (hr : clos (rel0 o.2) k a b = true) : a < o.1.toNat ∧ b < o.1.toNat := by
 obtain ⟨h0, h1, h2, h3⟩ := frm_of h
 refine Ord.clos_ind (P := fun a b => a < o.1.toNat ∧ b < o.1.toNat) (fun a b hab => ?_) (fun a b c h1 h2 => ⟨h1.1, h2.2⟩) k a b hr
 have := pok_of (h3 _ (rel0_iff.1 hab))
 dsimp only at this
 omega
theorem at0 (x : Int) : ((nat_lit 0 : Nat) : Int) + x * ((nat_lit 1 : Nat) : Int) = x := by show (0 : Int) + x * 1 = x; omega
theorem chk8 {b : Nat} (h : b < 8) : chkM (b : Int) ((nat_lit 8 : Nat) : Int) = some () := chkM_of (n := (8 : Int)) (by omega) (by omega)
def tup (d : Rel) : Int × Int × Int × Int × Int × Int × Int × Int := (b8 fun a => d a 0, b8 fun a => d a 1, b8 fun a => d a 2, b8 fun a => d a 3, b8 fun a => d a 4, b8 fun a => d a 5, b8 fun a => d a 6, b8 fun a => d a 7)
theorem rel0_take {l : List (Int × Int)} {k : Nat} (hk : k < l.length) (a b : Nat) : rel0 (l.take (k + 1)) a b = (rel0 (l.take k) a b || decide (l[k].1 = (a : Int) ∧ l[k].2 = (b : Int))) := by
 unfold rel0
 rw [List.take_succ_eq_append_getElem hk, List.any_append, List.any_cons, List.any_nil, Bool.or_false]
theorem cond_some {α β : Type} (c : Bool) (x y : α) (f : α → Option β) : Option.bind (bif c then some x else some y) f = f (bif c then x else y) := by cases c <;> rfl
attribute [local irreducible] tb b8 in
theorem pairs_loop {n : Nat} (hn8 : n ≤ 8) {l : List (Int × Int)} (hl : l.length ≤ 28) (h3 : ∀ p ∈ l, pok n p = true) :
  loopM (fun (s : Int × List Int) => bif ltM s.1 (lenM l) then Option.bind (idxM l s.1) fun (r : Int × Int)
 => Option.bind (chkM r.2 ↑(nat_lit 8)) fun (r_1 : Unit) => Option.bind (idxM s.2 (↑(nat_lit 0) + r.2 * ↑(nat_lit 1))) fun (r_2 : Int) => Option.bind (shlM
 IntKind.i64 (1 : Int) r.1) fun (r_3 : Int) => Option.bind (chkM r.2 ↑(nat_lit 8)) fun (r_4 : Unit) => Option.bind (setM s.2 (↑(nat_lit 0) + r.2 * ↑(nat_lit
 1)) fun (x : Int) => some (bitM BinOp.or IntKind.i64 r_2 r_3)) fun (r : List Int) => some (Sum.inl (IntKind.wrap IntKind.i64 (s.1 + (1 : Int)), r)) else some
 (Sum.inr s.2)) ((0 : Int), tb fun _ _ => false) = some (tb (rel0 l)) := by
 refine count_from (fun k => tb (rel0 (l.take k))) l.length rfl (fun k hk => ?_) ?_
 ·obtain ⟨p1, p2, p3, p4, p5⟩ := pok_of (h3 _ (List.getElem_mem hk))
  obtain ⟨a, ha⟩ : ∃ a : Nat, l[k].1 = (a : Int) := ⟨l[k].1.toNat, by omega⟩
  obtain ⟨b, hb⟩ : ∃ b : Nat, l[k].2 = (b : Int) := ⟨l[k].2.toNat, by omega⟩
  simp only [ltI (a := (k : Int)) (b := lenM l) (by show (k : Int) < (l.length : Int); omega), cond_true, idxM_lt hk, Option.bind_some, at0]
  rw [ha, hb]
  simp only [chk8 (b := b) (by omega), Option.bind_some, tb_idx _ (b := b) (by omega), shl_one (k := a) (by omega), or_b8]
  rw [tb_setc _ (by omega), Option.bind_some, wrap_in (by omega) (by omega)]
  refine congrArg (fun z => some (Sum.inl ((k : Int) + 1, z))) ?_
  refine tb_congr fun a' b' ha' hb' => ?_
  rw [rel0_take hk, ha, hb]
  by_cases hbb : b' = b
  ·subst hbb
   rw [if_pos rfl]
   congr 1
   by_cases haa : a' = a
   ·subst haa; simp
   ·have : ¬ (a : Int) = (a' : Int) := by omega
    simp [haa, this]
  ·rw [if_neg hbb]
   have : ¬ (b : Int) = (b' : Int) := by omega
   simp [this]
 ·rw [List.take_length, geI (by show (l.length : Int) ≤ (l.length : Int); omega)]; rfl
attribute [local irreducible] tb b8 in
theorem round_loop {n k : Nat} (hn8 : n ≤ 8) (hk : k < n) {d : Rel} (hd : ∀ b, n ≤ b → d k b = false) :
  loopM (fun (s_1 : Int × List Int) => bif ltM s_1.1 (n : Int) then Option.bind (Option.bind (chkM
 s_1.1 ↑(nat_lit 8)) fun (r : Unit) => Option.bind (idxM s_1.2 (↑(nat_lit 0) + s_1.1 * ↑(nat_lit 1))) fun (r_1 : Int) => Option.bind (shrM IntKind.i64 r_1 (k : Int))
 fun (r_2 : Int) => bif eqM (bitM BinOp.and IntKind.i64 r_2 (1 : Int)) (1 : Int) then Option.bind (chkM s_1.1 ↑(nat_lit 8)) fun (r_3 : Unit) => Option.bind
 (idxM s_1.2 (↑(nat_lit 0) + s_1.1 * ↑(nat_lit 1))) fun (r_4 : Int) => Option.bind (chkM (k : Int) ↑(nat_lit 8)) fun (r_5 : Unit) => Option.bind (idxM s_1.2
 (↑(nat_lit 0) + (k : Int) * ↑(nat_lit 1))) fun (r_6 : Int) => Option.bind (chkM s_1.1 ↑(nat_lit 8)) fun (r_7 : Unit) => Option.bind (setM s_1.2 (↑(nat_lit 0) +
 s_1.1 * ↑(nat_lit 1)) fun (x : Int) => some (bitM BinOp.or IntKind.i64 r_4 r_6)) fun (r : List Int) => some r else some s_1.2) fun (o : List Int) => some
 (Sum.inl (IntKind.wrap IntKind.i64 (s_1.1 + (1 : Int)), o)) else some (Sum.inr s_1.2)) ((0 : Int), tb d) = some (tb (Ord.stp k d)) := by
 refine count_from (fun j => tb fun a b => if b < j then Ord.stp k d a b else d a b) n (tb_congr fun a b _ _ => (if_neg (by omega)).symm) (fun j hj => ?_) ?_
 ·rw [ltI (by dsimp only; omega), cond_true]
  have c1 := chk8 (b := j) (by omega)
  have c2 := chk8 (b := k) (by omega)
  dsimp only
  rw [at0, at0, c1, c2, Option.bind_some, tb_idx _ (b := j) (by omega), Option.bind_some, shr_b8 _ (k := k) (by omega), Option.bind_some, has_b8, Option.bind_some, Option.bind_some, Option.bind_some, tb_idx _ (b := k) (by omega), Option.bind_some, Option.bind_some, or_b8, tb_setc _ (by omega), Option.bind_some, cond_some, wrap_in (by omega) (by omega)]
  refine congrArg (fun z => some (Sum.inl ((j : Int) + 1, z))) ?_
  have hk8 : decide (k < 8) = true := decide_eq_true (by omega)
  have hjj : ¬ j < j := by omega
  rw [hk8, Bool.true_and, if_neg hjj]
  have hrow : ∀ a, (if k < j then Ord.stp k d a k else d a k) = d a k := by
   intro a
   by_cases hkj : k < j
   ·rw [if_pos hkj]
    show (d a k || (d a k && d k k)) = _
    cases d a k <;> rfl
   ·rw [if_neg hkj]
  cases hc : d k j
  ·rw [cond_false]
   refine tb_congr fun a b _ _ => ?_
   by_cases hb : b = j
   ·subst hb
    rw [if_neg (by omega), if_pos (by omega)]
    show _ = (d a b || (d a k && d k b))
    rw [hc, Bool.and_false, Bool.or_false]
   ·by_cases hb2 : b < j
    ·rw [if_pos hb2, if_pos (by omega)]
    ·rw [if_neg hb2, if_neg (by omega)]
  ·rw [cond_true]
   refine tb_congr fun a b _ _ => ?_
   by_cases hb : b = j
   ·subst hb
    rw [if_pos rfl, hrow a, if_neg (by omega), if_pos (by omega)]
    show _ = (d a b || (d a k && d k b))
    rw [hc, Bool.and_true]
   ·rw [if_neg hb]
    by_cases hb2 : b < j
    ·rw [if_pos hb2, if_pos (by omega)]
    ·rw [if_neg hb2, if_neg (by omega)]
 ·rw [geI (by dsimp only; omega), cond_false]
  refine congrArg (fun z => some (Sum.inr z)) (tb_congr fun a b _ _ => ?_)
  by_cases hb : b < n
  ·rw [if_pos hb]
  ·rw [if_neg hb]
   show _ = (d a b || (d a k && d k b))
   rw [hd b (by omega), Bool.and_false, Bool.or_false]
attribute [local irreducible] tb b8 in
theorem clos_loop {n : Nat} (hn8 : n ≤ 8) {d : Rel} (hd : ∀ k b, n ≤ b → clos d k k b = false) :
  loopM (fun (s : Int × List Int) => bif ltM s.1 (n : Int) then Option.bind (loopM (fun (s_1 : Int × List Int) => bif ltM s_1.1 (n : Int) then Option.bind (Option.bind (chkM
 s_1.1 ↑(nat_lit 8)) fun (r : Unit) => Option.bind (idxM s_1.2 (↑(nat_lit 0) + s_1.1 * ↑(nat_lit 1))) fun (r_1 : Int) => Option.bind (shrM IntKind.i64 r_1 s.1)
 fun (r_2 : Int) => bif eqM (bitM BinOp.and IntKind.i64 r_2 (1 : Int)) (1 : Int) then Option.bind (chkM s_1.1 ↑(nat_lit 8)) fun (r_3 : Unit) => Option.bind
 (idxM s_1.2 (↑(nat_lit 0) + s_1.1 * ↑(nat_lit 1))) fun (r_4 : Int) => Option.bind (chkM s.1 ↑(nat_lit 8)) fun (r_5 : Unit) => Option.bind (idxM s_1.2
 (↑(nat_lit 0) + s.1 * ↑(nat_lit 1))) fun (r_6 : Int) => Option.bind (chkM s_1.1 ↑(nat_lit 8)) fun (r_7 : Unit) => Option.bind (setM s_1.2 (↑(nat_lit 0) +
 s_1.1 * ↑(nat_lit 1)) fun (x : Int) => some (bitM BinOp.or IntKind.i64 r_4 r_6)) fun (r : List Int) => some r else some s_1.2) fun (o : List Int) => some
 (Sum.inl (IntKind.wrap IntKind.i64 (s_1.1 + (1 : Int)), o)) else some (Sum.inr s_1.2)) ((0 : Int), s.2)) fun (o : List Int) => some (Sum.inl (IntKind.wrap
 IntKind.i64 (s.1 + (1 : Int)), o)) else some (Sum.inr s.2)) ((0 : Int), tb d) = some (tb (clos d n)) := by
 refine count_from (fun k => tb (clos d k)) n rfl (fun k hk => ?_) ?_
 ·rw [ltI (by dsimp only; omega), cond_true]
  refine bind_of (round_loop hn8 hk (d := clos d k) (hd k)) ?_
  rw [wrap_in (by dsimp only; omega) (by dsimp only; omega)]
  rfl
 ·rw [geI (by dsimp only; omega), cond_false]
attribute [local irreducible] tb b8 in
theorem dia_loop {n : Nat} (hn8 : n ≤ 8) (d : Rel) (x : Bool × List Int) :
  ∃ r, loopM (fun (s : Int) => bif ltM s (n : Int) then
 Option.bind (chkM s ↑(nat_lit 8)) fun (r : Unit) => Option.bind (idxM (tb d) (↑(nat_lit 0) + s * ↑(nat_lit 1))) fun (r_1 : Int) => Option.bind (shrM IntKind.i64
 r_1 s) fun (r : Int) => bif eqM (bitM BinOp.and IntKind.i64 r (1 : Int)) (1 : Int) then some (Sum.inr (Sum.inr x)) else some (Sum.inl (IntKind.wrap IntKind.i64 (s + (1 : Int)))) else some (Sum.inr (Sum.inl
 ()))) (0 : Int) = some r ∧ ((r = .inl () ∧ ((List.range n).all fun a => !d a a) = true) ∨ (r = .inr x ∧ ((List.range n).all fun a => !d a a) = false)) := by
 refine loopM_from (fun k s => s = (k : Int) ∧ k ≤ n ∧ ∀ a, a < k → d a a = false) (fun (r : Unit ⊕ Bool × List Int) => (r = .inl () ∧ ((List.range n).all fun a => !d a a) = true) ∨ (r = .inr x ∧ ((List.range n).all fun a => !d a a) = false)) n (s := 0) ⟨rfl, by omega, fun a ha => by omega⟩ (fun k s hk hP => ?_)
 obtain ⟨rfl, hk, hP⟩ := hP
 by_cases hlt : k < n
 ·rw [ltI (by omega), cond_true, chk8 (by omega), Option.bind_some, at0, tb_idx _ (by omega), Option.bind_some, shr_b8 _ (by omega), Option.bind_some, has_b8, decide_eq_true (by omega : k < 8), Bool.true_and, wrap_in (by omega) (by omega)]
  cases hc : d k k
  ·exact .inl ⟨_, hlt, rfl, rfl, by omega, fun a ha => by
    by_cases ha2 : a = k
    ·rw [ha2]; exact hc
    ·exact hP a (by omega)⟩
  ·refine .inr ⟨_, rfl, .inr ⟨rfl, ?_⟩⟩
   rw [List.all_eq_false]
   exact ⟨k, List.mem_range.2 (by omega), by rw [hc]; decide⟩
 ·refine .inr ⟨.inl (), ?_, .inl ⟨rfl, ?_⟩⟩
  ·rw [geI (by omega)]; rfl
  ·rw [List.all_eq_true]
   intro a ha
   rw [List.mem_range] at ha
   rw [hP a (by omega)]; rfl
attribute [local irreducible] tb b8 in
theorem m107_eq {o : Int × List (Int × Int)} (h : frm o = true) : m107 o = some (tup (rl o), acy o) := by
 obtain ⟨h0, h1, h2, h3⟩ := frm_of h
 unfold m107
 generalize hn : o.1.toNat = n
 have hn8 : n ≤ 8 := by omega
 have on : o.1 = (n : Int) := by omega
 rw [tb_nil, on]
 refine bind_of (pairs_loop hn8 h2 (fun p hp => by rw [← on]; exact h3 p hp)) ?_
 refine bind_of (clos_loop hn8 fun k b hb => ?_) ?_
 ·cases hc : clos (rel0 o.2) k k b
  ·rfl
  ·exact absurd (clos_in h hc).2 (by omega)
 have hrl : clos (rel0 o.2) n = rl o := by unfold rl; rw [hn]
 rw [hrl]
 simp only [tb_nths]
 obtain ⟨r, hr, hr2⟩ := dia_loop hn8 (rl o) (false, tb (rl o))
 refine bind_of (x := r) hr ?_
 have e8 : ∀ b : Nat, b < 8 → nthD (tb (rl o)) b (0 : Int) = b8 fun a => rl o a b := fun b hb => tb_nth _ hb
 have ea : acy o = (List.range n).all fun a => !rl o a a := by unfold acy; rw [hn]
 rw [ea]
 rcases hr2 with ⟨rfl, hr2⟩ | ⟨rfl, hr2⟩
 ·simp only [Sum.elim_inl, e8 _ (by decide : 0 < 8), e8 _ (by decide : 1 < 8), e8 _ (by decide : 2 < 8), e8 _ (by decide : 3 < 8), e8 _ (by decide : 4 < 8), e8 _ (by decide : 5 < 8), e8 _ (by decide : 6 < 8), e8 _ (by decide : 7 < 8)]
  rw [hr2]; rfl
 ·simp only [Sum.elim_inr, e8 _ (by decide : 0 < 8), e8 _ (by decide : 1 < 8), e8 _ (by decide : 2 < 8), e8 _ (by decide : 3 < 8), e8 _ (by decide : 4 < 8), e8 _ (by decide : 5 < 8), e8 _ (by decide : 6 < 8), e8 _ (by decide : 7 < 8)]
  rw [hr2]; rfl
theorem m67_eq (o : Int × List (Int × Int)) : m67 o = some (if frm o = true then (tup (rl o), acy o) else ((0, 0, 0, 0, 0, 0, 0, 0), false)) := by
 unfold m67
 rw [show ((o.1, o.2) : Int × List (Int × Int)) = o from rfl, m106_eq, Option.bind_some]
 cases h : frm o
 ·rfl
 ·rw [m107_eq h, if_pos rfl]; rfl
theorem m60_eq (o : Int × List (Int × Int)) : m60 o = some (okO o) := by
 unfold m60 okO
 rw [show ((o.1, o.2) : Int × List (Int × Int)) = o from rfl, m67_eq, Option.bind_some]
 cases h : frm o <;> rfl
end Go.Proofs.YthfgccfaildmfaaGreatDoor
/-
 Dating: orders, as the models compute them: the reduction, what comes before what.
 No conditions.
-/
namespace Go.Proofs.YthfgccfaildmfaaGreatDoor
open Go Go.Abs Go.PE
open Ord (Rel clos)
set_option linter.unusedVariables false
set_option maxRecDepth 10000
def lsr (n : Nat) (d : Rel) (a : Nat) (j : Nat) : List (Int × Int) := ((List.range j).filter fun b => d a b).map fun (b : Nat) => ((a : Int), (b : Int))
def lst (n : Nat) (d : Rel) (i : Nat) : List (Int × Int) := (List.range i).flatMap fun a => lsr n d a n
theorem lsr_len (n : Nat) (d : Rel) (a j : Nat) : (lsr n d a j).length ≤ j := by
 unfold lsr
 rw [List.length_map]
 have := List.length_filter_le (fun b => d a b) (List.range j)
 rw [List.length_range] at this
 exact this
theorem lst_len (n : Nat) (d : Rel) : ∀ i, (lst n d i).length ≤ i * n
 | 0 => by simp [lst]
 | i + 1 => by
  have e : lst n d (i + 1) = lst n d i ++ lsr n d i n := by
   unfold lst
   rw [List.range_succ, List.flatMap_append]
   simp
  have h1 := lst_len n d i
  have h2 := lsr_len n d i n
  rw [e, List.length_append, Nat.succ_mul]
  omega
theorem lst_succ (n : Nat) (d : Rel) (i : Nat) : lst n d (i + 1) = lst n d i ++ lsr n d i n := by
 unfold lst
 rw [List.range_succ, List.flatMap_append]
 simp
theorem lsr_succ (n : Nat) (d : Rel) (a j : Nat) : lsr n d a (j + 1) = lsr n d a j ++ (bif d a j then [((a : Int), (j : Int))] else []) := by
 unfold lsr
 rw [List.range_succ, List.filter_append, List.map_append]
 congr 1
 cases h : d a j <;> simp [h]
theorem mem_lst {n : Nat} {d : Rel} {p : Int × Int} : p ∈ lst n d n ↔ ∃ a b : Nat, a < n ∧ b < n ∧ d a b = true ∧ p = ((a : Int), (b : Int)) := by
 unfold lst lsr
 rw [List.mem_flatMap]
 constructor
 ·rintro ⟨a, ha, h⟩
  rw [List.mem_map] at h
  obtain ⟨b, hb, rfl⟩ := h
  rw [List.mem_filter, List.mem_range] at hb
  rw [List.mem_range] at ha
  exact ⟨a, b, ha, hb.1, hb.2, rfl⟩
 ·rintro ⟨a, b, ha, hb, h, rfl⟩
  exact ⟨a, List.mem_range.2 ha, List.mem_map.2 ⟨b, List.mem_filter.2 ⟨List.mem_range.2 hb, h⟩, rfl⟩⟩
attribute [local irreducible] tb b8 in
theorem row_loop {n i : Nat} (hn8 : n ≤ 8) (hi : i < n) (d : Rel) (N : Int) {acc : List (Int × Int)} (ha : acc.length ≤ 64) :
  loopM (fun (s_1 : Int × Int × List (Int × Int)) => bif ltM s_1.1 (n : Int) then Option.bind (Option.bind (chkM s_1.1 ↑(nat_lit 8)) fun (r : Unit) => Option.bind
 (idxM (tb d) (↑(nat_lit 0) + s_1.1 * ↑(nat_lit 1)))
 fun (r_1 : Int) => Option.bind (shrM IntKind.i64 r_1 (i : Int)) fun (r_2 : Int) => bif eqM (bitM BinOp.and IntKind.i64 r_2 (1 : Int)) (1 : Int) then Option.bind
 (appM (nat_lit 16) s_1.2.2 [((i : Int), s_1.1)]) fun (r : List (Int × Int)) => some (s_1.2.1, r) else some (s_1.2.1, s_1.2.2)) fun (o : Int × List (Int × Int)) =>
 some (Sum.inl (IntKind.wrap IntKind.i64 (s_1.1 + (1 : Int)), o.1, o.2)) else some (Sum.inr (s_1.2.1, s_1.2.2))) ((0 : Int), N, acc) = some (N, acc ++ lsr n d i n) := by
 refine count_from (fun j => (N, acc ++ lsr n d i j)) n (by show _ = (N, acc ++ lsr n d i 0); rw [show lsr n d i 0 = [] from rfl, List.append_nil]) (fun j hj => ?_) ?_
 ·rw [ltI (by dsimp only; omega), cond_true]
  dsimp only
  have hl := lsr_len n d i j
  rw [at0, chk8 (b := j) (by omega), Option.bind_some, tb_idx _ (b := j) (by omega), Option.bind_some, shr_b8 _ (k := i) (by omega), Option.bind_some, has_b8, decide_eq_true (show i < 8 by omega), Bool.true_and, appM_of (by rw [List.length_append]; show (_ + _ + 1) * 16 ≤ _; omega), Option.bind_some, cond_some, wrap_in (by omega) (by omega), lsr_succ, ← List.append_assoc]
  cases d i j
  ·rw [cond_false, cond_false, List.append_nil]
  ·rw [cond_true, cond_true]
 ·rw [geI (by dsimp only; omega), cond_false]
attribute [local irreducible] tb b8 in
theorem m68_eq {n : Nat} (hn8 : n ≤ 8) (d : Rel) : m68 ((n : Int), tup d) = some ((n : Int), lst n d n) := by
 unfold m68
 have e : [(tup d).1, (tup d).2.1, (tup d).2.2.1, (tup d).2.2.2.1, (tup d).2.2.2.2.1, (tup d).2.2.2.2.2.1, (tup d).2.2.2.2.2.2.1, (tup d).2.2.2.2.2.2.2] = tb d := tb_list d
 dsimp only
 rw [e]
 refine bind_of (x := ((n : Int), lst n d n)) ?_ rfl
 refine count_from (fun i => ((n : Int), lst n d i)) n rfl (fun i hi => ?_) ?_
 ·rw [ltI (by dsimp only; omega), cond_true]
  refine bind_of (row_loop hn8 hi d (n : Int) (by dsimp only; have := lst_len n d i; have h2 : i * n ≤ 8 * 8 := Nat.mul_le_mul (by omega) (by omega); omega)) ?_
  dsimp only
  rw [wrap_in (by omega) (by omega), lst_succ]
 ·rw [geI (by dsimp only; omega), cond_false]
def rdc (o : Int × List (Int × Int)) : Rel := Ord.red o.1.toNat (rl o)
def pred (r : Rel) (a b j : Nat) : Bool := r a b && (List.range j).all fun k => !(r a k && r k b)
theorem pred_succ (r : Rel) (a b j : Nat) : pred r a b (j + 1) = (pred r a b j && !(r a j && r j b)) := by
 unfold pred
 rw [List.range_succ, List.all_append, Bool.and_assoc]
 simp
theorem pred_zero (r : Rel) (a b : Nat) : pred r a b 0 = r a b := by
 unfold pred
 rw [List.range_zero, List.all_nil, Bool.and_true]
attribute [local irreducible] tb b8 in
theorem less_loop {n i : Nat} (hn8 : n ≤ 8) (hi : i < n) (r d : Rel) (hd : ∀ a, d a i = r a i) :
  loopM (fun (s_1 : Int × List Int) => bif ltM s_1.1 (n : Int) then Option.bind (Option.bind (chkM (i : Int) ↑(nat_lit 8)) fun (r_1 : Unit) => Option.bind (idxM (tb r) (↑(nat_lit 0) + (i : Int) * ↑(nat_lit 1))) fun (r_2 : Int) => Option.bind (shrM IntKind.i64
 r_2 s_1.1) fun (r_3 : Int) => bif eqM (bitM BinOp.and IntKind.i64 r_3 (1 : Int)) (1 : Int) then Option.bind (chkM (i : Int) ↑(nat_lit 8)) fun (r_4 : Unit) =>
 Option.bind (idxM s_1.2 (↑(nat_lit 0) + (i : Int) * ↑(nat_lit 1))) fun (r_5 : Int) => Option.bind (chkM s_1.1 ↑(nat_lit 8)) fun (r_6 : Unit) => Option.bind (idxM
 (tb r) (↑(nat_lit 0) + s_1.1 * ↑(nat_lit 1))) fun (r_7
 : Int) => Option.bind (chkM (i : Int) ↑(nat_lit 8)) fun (r_8 : Unit) => Option.bind (setM s_1.2 (↑(nat_lit 0) + (i : Int) * ↑(nat_lit 1)) fun (x : Int) => some (bitM
 BinOp.andNot IntKind.i64 r_5 r_7)) fun (r : List Int) => some r else some s_1.2) fun (o : List Int) => some (Sum.inl (IntKind.wrap IntKind.i64 (s_1.1 + (1 :
 Int)), o)) else some (Sum.inr s_1.2)) ((0 : Int), tb d) = some (tb fun a b => if b = i then pred r a i n else d a b) := by
 refine count_from (fun j => tb fun a b => if b = i then pred r a i j else d a b) n (tb_congr fun a b _ _ => ?_) (fun j hj => ?_) ?_
 ·by_cases hb : b = i
  ·subst hb; rw [if_pos rfl, pred_zero, hd]
  ·rw [if_neg hb]
 ·rw [ltI (by dsimp only; omega), cond_true]
  have c1 := chk8 (b := i) (by omega)
  have c2 := chk8 (b := j) (by omega)
  dsimp only
  rw [at0, at0, c1, c2, Option.bind_some, tb_idx _ (b := i) (by omega), Option.bind_some, shr_b8 _ (k := j) (by omega), Option.bind_some, has_b8, Option.bind_some, tb_idx _ (b := i) (by omega), Option.bind_some, Option.bind_some, tb_idx _ (b := j) (by omega), Option.bind_some, Option.bind_some, andNot_b8, tb_setc _ (by omega), Option.bind_some, cond_some, wrap_in (by omega) (by omega)]
  refine congrArg (fun z => some (Sum.inl ((j : Int) + 1, z))) ?_
  rw [decide_eq_true (show j < 8 by omega), Bool.true_and]
  cases hc : r j i
  ·rw [cond_false]
   refine tb_congr fun a b _ _ => ?_
   by_cases hb : b = i
   ·subst hb
    rw [if_pos rfl, if_pos rfl, pred_succ, hc, Bool.and_false, Bool.not_false, Bool.and_true]
   ·rw [if_neg hb, if_neg hb]
  ·rw [cond_true]
   refine tb_congr fun a b _ _ => ?_
   by_cases hb : b = i
   ·subst hb
    rw [if_pos rfl, if_pos rfl, if_pos rfl, pred_succ, hc, Bool.and_true]
   ·rw [if_neg hb, if_neg hb, if_neg hb]
 ·rw [geI (by dsimp only; omega), cond_false]
attribute [local irreducible] tb b8 in
theorem m28_eq {o : Int × List (Int × Int)} (h : okO o = true) : m28 o = some ((o.1, lst o.1.toNat (rdc o) o.1.toNat), 0) := by
 unfold okO at h
 rw [Bool.and_eq_true] at h
 obtain ⟨h0, h1, h2, h3⟩ := frm_of h.1
 unfold m28
 rw [show ((o.1, o.2) : Int × List (Int × Int)) = o from rfl, m67_eq, Option.bind_some, if_pos h.1, h.2]
 show Option.bind (loopM _ _) _ = _
 generalize hn : o.1.toNat = n
 have hn8 : n ≤ 8 := by omega
 have on : o.1 = (n : Int) := by omega
 have e : [(tup (rl o)).1, (tup (rl o)).2.1, (tup (rl o)).2.2.1, (tup (rl o)).2.2.2.1, (tup (rl o)).2.2.2.2.1, (tup (rl o)).2.2.2.2.2.1, (tup (rl o)).2.2.2.2.2.2.1, (tup (rl o)).2.2.2.2.2.2.2] = tb (rl o) := tb_list _
 rw [e, on]
 refine bind_of (x := tb fun a b => if b < n then pred (rl o) a b n else rl o a b) ?_ ?_
 ·refine count_from (fun i => tb fun a b => if b < i then pred (rl o) a b n else rl o a b) n (tb_congr fun a b _ _ => (if_neg (by omega)).symm) (fun i hi => ?_) ?_
  ·rw [ltI (by dsimp only; omega), cond_true]
   refine bind_of (less_loop hn8 hi (rl o) _ fun a => if_neg (by omega)) ?_
   dsimp only
   rw [wrap_in (by omega) (by omega)]
   refine congrArg (fun z => some (Sum.inl ((i : Int) + 1, z))) (tb_congr fun a b _ _ => ?_)
   by_cases hb : b = i
   ·subst hb; rw [if_pos rfl, if_pos (by omega)]
   ·rw [if_neg hb]
    by_cases hb2 : b < i
    ·rw [if_pos hb2, if_pos (by omega)]
    ·rw [if_neg hb2, if_neg (by omega)]
  ·rw [geI (by dsimp only; omega), cond_false]
 ·have e8 : ∀ (d : Rel) (b : Nat), b < 8 → nthD (tb d) b (0 : Int) = b8 fun a => d a b := fun d b hb => tb_nth _ hb
  have et : tb (fun a b => if b < n then pred (rl o) a b n else rl o a b) = tb (rdc o) := tb_congr fun a b _ _ => by
   unfold rdc Ord.red
   rw [hn]
   by_cases hb : b < n
   ·rw [if_pos hb]; rfl
   ·rw [if_neg hb]
    have : rl o a b = false := by
     cases hc : rl o a b
     ·rfl
     ·exact absurd (clos_in h.1 hc).2 (by omega)
    rw [this, Bool.false_and]
  rw [et]
  refine bind_of (x := ((n : Int), lst n (rdc o) n)) ?_ rfl
  rw [e8 _ _ (by decide : 0 < 8), e8 _ _ (by decide : 1 < 8), e8 _ _ (by decide : 2 < 8), e8 _ _ (by decide : 3 < 8), e8 _ _ (by decide : 4 < 8), e8 _ _ (by decide : 5 < 8), e8 _ _ (by decide : 6 < 8), e8 _ _ (by decide : 7 < 8)]
  exact m68_eq hn8 (rdc o)
end Go.Proofs.YthfgccfaildmfaaGreatDoor
/-
 Dating: what comes before what; valid clues, valid datings.
 No conditions.
-/
namespace Go.Proofs.YthfgccfaildmfaaGreatDoor
open Go Go.Abs Go.PE
open Ord (Rel clos)
set_option linter.unusedVariables false
set_option maxRecDepth 10000
abbrev Clu := Int × Int × Int × Int × Int
abbrev Dat := (Int × List (Int × Int)) × List Clu
def vcl (n : Int) (c : Clu) : Bool := decide (0 ≤ c.2.1 ∧ c.2.1 < n ∧
  ((c.1 = 1 ∧ c.2.2.1 = 0 ∧ 0 ≤ c.2.2.2.1 ∧ c.2.2.2.1 < c.2.2.2.2 ∧ c.2.2.2.2 ≤ 2101) ∨
   ((c.1 = 2 ∨ c.1 = 3) ∧ c.2.2.1 = 0 ∧ 0 ≤ c.2.2.2.1 ∧ c.2.2.2.1 ≤ 2100 ∧ c.2.2.2.2 = 0) ∨
   (c.1 = 4 ∧ 0 ≤ c.2.2.1 ∧ c.2.2.1 < n ∧ c.2.2.2.1 = 0 ∧ c.2.2.2.2 = 0) ∨
   (c.1 = 5 ∧ 0 ≤ c.2.2.1 ∧ c.2.2.1 < n ∧ -200 ≤ c.2.2.2.1 ∧ c.2.2.2.1 ≤ c.2.2.2.2 ∧ c.2.2.2.2 ≤ 200)))
theorem m54_eq (a b c : Int) : m54 (a, b, c) = some (decide (b ≤ a ∧ a ≤ c)) := by
 unfold m54
 show some (decide _ && decide _) = _
 rw [← Bool.decide_and]
theorem cond_bit (c : Bool) (x : Bool) : (bif c then some x else some false) = some (c && x) := by cases c <;> rfl
theorem m59_eq {n : Int} (h0 : 0 ≤ n) (h1 : n ≤ 8) (c : Clu) : m59 (c, n) = some (vcl n c) := by
 unfold m59
 dsimp only
 rw [wrap_in (by omega) (by omega), m54_eq, Option.bind_some]
 by_cases k1 : c.1 = 1
 ·rw [eqI k1, cond_true]
  congr 1
  rw [Bool.eq_iff_iff]
  unfold vcl
  show ((((decide _ && decide _) && decide _) && decide _) && decide _) = true ↔ _
  simp only [Bool.and_eq_true, decide_eq_true_eq]
  omega
 ·rw [neI k1, cond_false, cond_some]
  by_cases k2 : c.1 = 2 ∨ c.1 = 3
  ·have e : (bif eqM c.1 2 then eqM c.1 2 else eqM c.1 3) = true := by
    rcases k2 with k | k
    ·rw [eqI k]; rfl
    ·rw [neI (by omega), cond_false, eqI k]
   rw [e, cond_true, m54_eq, cond_bit, Option.bind_some]
   congr 1
   rw [Bool.eq_iff_iff]
   unfold vcl
   show (((decide _ && decide _) && ((decide _ && decide _) && decide _)) && decide _) = true ↔ _
   simp only [Bool.and_eq_true, decide_eq_true_eq]
   omega
  ·have e : (bif eqM c.1 2 then eqM c.1 2 else eqM c.1 3) = false := by
    rw [neI (by omega), cond_false, neI (by omega)]
   rw [e, cond_false, m54_eq]
   by_cases k4 : c.1 = 4
   ·rw [eqI k4, cond_true, cond_bit, Option.bind_some]
    congr 1
    rw [Bool.eq_iff_iff]
    unfold vcl
    show (((decide _ && (decide _ && decide _)) && decide _) && decide _) = true ↔ _
    simp only [Bool.and_eq_true, decide_eq_true_eq]
    omega
   ·rw [neI k4, cond_false]
    by_cases k5 : c.1 = 5
    ·rw [eqI k5, cond_true, cond_bit, Option.bind_some]
     congr 1
     rw [Bool.eq_iff_iff]
     unfold vcl
     show ((((decide _ && (decide _ && decide _)) && decide _) && decide _) && decide _) = true ↔ _
     simp only [Bool.and_eq_true, decide_eq_true_eq]
     omega
    ·rw [neI k5, cond_false]
     congr 1
     symm
     unfold vcl
     exact decide_eq_false (by omega)
def vld (d : Dat) : Bool := (okO d.1 && decide (d.2.length ≤ 14)) && d.2.all (vcl d.1.1)
theorem m20_eq (d : Dat) : m20 d = some (vld d) := by
 unfold m20
 rw [show ((d.1.1, d.1.2) : Int × List (Int × Int)) = d.1 from rfl, m60_eq, Option.bind_some]
 have e : leM (lenM d.2) (14 : Int) = decide (d.2.length ≤ 14) := by
  show decide ((d.2.length : Int) ≤ 14) = _
  rw [Bool.eq_iff_iff, decide_eq_true_eq, decide_eq_true_eq]
  omega
 rw [e, show PE.andM (okO d.1) (decide (d.2.length ≤ 14)) = (okO d.1 && decide (d.2.length ≤ 14)) from rfl]
 unfold vld
 by_cases h : (okO d.1 && decide (d.2.length ≤ 14)) = true
 ·rw [h, cond_true, Bool.true_and]
  rw [Bool.and_eq_true, decide_eq_true_eq] at h
  obtain ⟨ho, hl⟩ := h
  unfold okO at ho
  rw [Bool.and_eq_true] at ho
  obtain ⟨h0, h1, h2, h3⟩ := frm_of ho.1
  refine bind_of (x := d.2.any fun c => !vcl d.1.1 c) ?_ ?_
  ·refine any_loop (xs := d.2) (fun c => !vcl d.1.1 c) (fun k hk => ?_) ?_
   ·rw [ltI (by show (k : Int) < (d.2.length : Int); omega), cond_true, idxM_lt hk, Option.bind_some, show ((d.2[k].1, d.2[k].2.1, d.2[k].2.2.1, d.2[k].2.2.2.1, d.2[k].2.2.2.2) : Clu) = d.2[k] from rfl, m59_eq h0 h1, Option.bind_some, wrap_in (by omega) (by omega)]
    show (bif !vcl d.1.1 d.2[k] then _ else _) = _
    cases vcl d.1.1 d.2[k] <;> rfl
   ·rw [geI (by show (d.2.length : Int) ≤ (d.2.length : Int); omega)]; rfl
  ·show some (true && !(d.2.any fun c => !vcl d.1.1 c)) = _
   rw [Bool.true_and, List.not_any_eq_all_not]
   simp
 ·have h : (okO d.1 && decide (d.2.length ≤ 14)) = false := by simpa using h
  rw [h, cond_false, Bool.false_and, Option.bind_some]
  rfl
end Go.Proofs.YthfgccfaildmfaaGreatDoor
/-
 Dating: the bounds of a dating.
 No conditions.
-/
namespace Go.Proofs.YthfgccfaildmfaaGreatDoor
open Go Go.Abs Go.PE
open Ord (Rel clos)
set_option linter.unusedVariables false
set_option maxRecDepth 10000
abbrev Bnd := Int × Int × Int
def obs (n : Int) (i : Nat) : List Bnd := (List.range i).flatMap fun (a : Nat) => [((a : Int), n, (0 : Int)), (n, (a : Int), (2100 : Int))]
def clb (n : Int) (c : Clu) : List Bnd :=
 if c.1 = 1 then [(c.2.1, n, -c.2.2.2.1), (n, c.2.1, c.2.2.2.2 - 1)]
 else if c.1 = 2 then [(c.2.1, n, -c.2.2.2.1), (n, c.2.1, 2100)]
 else if c.1 = 3 then [(c.2.1, n, 0), (n, c.2.1, c.2.2.2.1)]
 else [(c.2.1, c.2.2.1, c.2.2.2.2), (c.2.2.1, c.2.1, -c.2.2.2.1)]
def prs (l : List (Int × Int)) : List Bnd := l.map fun p => (p.2, p.1, (0 : Int))
def rpr (o : Int × List (Int × Int)) : List (Int × Int) := lst o.1.toNat (rdc o) o.1.toNat
def bds (d : Dat) : Int × List Bnd := (d.1.1 + 1, obs d.1.1 d.1.1.toNat ++ d.2.flatMap (clb d.1.1) ++ prs (rpr d.1))
theorem obs_succ (n : Int) (i : Nat) : obs n (i + 1) = obs n i ++ [((i : Int), n, (0 : Int)), (n, (i : Int), (2100 : Int))] := by
 unfold obs
 rw [List.range_succ, List.flatMap_append]
 simp
theorem obs_len (n : Int) : ∀ i, (obs n i).length = 2 * i
 | 0 => rfl
 | i + 1 => by rw [obs_succ, List.length_append, obs_len n i]; show 2 * i + 2 = _; omega
theorem clb_len (n : Int) (c : Clu) : (clb n c).length = 2 := by
 unfold clb
 split
 ·rfl
 ·split
  ·rfl
  ·split <;> rfl
theorem clbs_len (n : Int) : ∀ l : List Clu, (l.flatMap (clb n)).length = 2 * l.length
 | [] => rfl
 | c :: r => by rw [List.flatMap_cons, List.length_append, clb_len, clbs_len n r, List.length_cons]; omega
theorem vld_of {d : Dat} (h : vld d = true) : okO d.1 = true ∧ d.2.length ≤ 14 ∧ ∀ c ∈ d.2, vcl d.1.1 c = true := by
 unfold vld at h
 simp only [Bool.and_eq_true, decide_eq_true_eq, List.all_eq_true] at h
 exact ⟨h.1.1, h.1.2, h.2⟩
theorem okO_of {o : Int × List (Int × Int)} (h : okO o = true) : 0 ≤ o.1 ∧ o.1 ≤ 8 ∧ o.2.length ≤ 28 ∧ ∀ p ∈ o.2, pok o.1 p = true := by
 unfold okO at h
 rw [Bool.and_eq_true] at h
 exact frm_of h.1
theorem vcl_of {n : Int} {c : Clu} (h : vcl n c = true) : 0 ≤ c.2.1 ∧ c.2.1 < n ∧
  ((c.1 = 1 ∧ c.2.2.1 = 0 ∧ 0 ≤ c.2.2.2.1 ∧ c.2.2.2.1 < c.2.2.2.2 ∧ c.2.2.2.2 ≤ 2101) ∨
   ((c.1 = 2 ∨ c.1 = 3) ∧ c.2.2.1 = 0 ∧ 0 ≤ c.2.2.2.1 ∧ c.2.2.2.1 ≤ 2100 ∧ c.2.2.2.2 = 0) ∨
   (c.1 = 4 ∧ 0 ≤ c.2.2.1 ∧ c.2.2.1 < n ∧ c.2.2.2.1 = 0 ∧ c.2.2.2.2 = 0) ∨
   (c.1 = 5 ∧ 0 ≤ c.2.2.1 ∧ c.2.2.1 < n ∧ -200 ≤ c.2.2.2.1 ∧ c.2.2.2.1 ≤ c.2.2.2.2 ∧ c.2.2.2.2 ≤ 200)) := of_decide_eq_true h
theorem rpr_len (o : Int × List (Int × Int)) (h : okO o = true) : (rpr o).length ≤ 64 := by
 obtain ⟨h0, h1, _, _⟩ := okO_of h
 have h2 := lst_len o.1.toNat (rdc o) o.1.toNat
 have h3 : o.1.toNat * o.1.toNat ≤ 8 * 8 := Nat.mul_le_mul (by omega) (by omega)
 unfold rpr
 omega
theorem prs_len (l : List (Int × Int)) : (prs l).length = l.length := List.length_map ..
theorem app24 {xs : List Bnd} {y : Bnd} (h : xs.length ≤ 200) : appM (nat_lit 24) xs [y] = some (xs ++ [y]) := appM_of (by
 show (xs.length + 1) * 24 ≤ _
 omega)
theorem prs_append (a b : List (Int × Int)) : prs (a ++ b) = prs a ++ prs b := List.map_append ..
theorem m24_eq (d : Dat) : m24 d = some (if vld d = true then (bds d, 0) else ((0, []), 220)) := by
 unfold m24
 rw [show (((d.1.1, d.1.2), d.2) : Dat) = d from rfl, m20_eq, Option.bind_some]
 by_cases h : vld d = true
 ·rw [h, if_pos rfl, notT, cond_false]
  obtain ⟨hO, hl, hc⟩ := vld_of h
  obtain ⟨n0, n8, _, _⟩ := okO_of hO
  refine bind_of (x := bds d) ?_ rfl
  generalize hn : d.1.1.toNat = n
  have on : d.1.1 = (n : Int) := by omega
  have ow : IntKind.wrap IntKind.i64 (d.1.1 + 1) = d.1.1 + 1 := wrap_in (by omega) (by omega)
  rw [ow]
  refine bind_of (x := .inl (d.1.1 + 1, obs d.1.1 n)) ?_ ?_
  ·refine count_from (fun i => (d.1.1 + 1, obs d.1.1 i)) n rfl (fun i hi => ?_) ?_
   ·rw [ltI (by dsimp only; omega), cond_true]
    have hx := obs_len d.1.1 i
    dsimp only
    rw [app24 (by omega), Option.bind_some, app24 (by rw [List.length_append]; show _ + 1 ≤ _; omega), Option.bind_some, wrap_in (by omega) (by omega), obs_succ, List.append_assoc]
    rfl
   ·rw [geI (by dsimp only; omega), cond_false]
  ·rw [Sum.elim_inl]
   have hL : obs d.1.1 n ++ (d.2.take d.2.length).flatMap (clb d.1.1) = obs d.1.1 n ++ d.2.flatMap (clb d.1.1) := by rw [List.take_length]
   refine bind_of (x := .inl (d.1.1 + 1, obs d.1.1 n ++ d.2.flatMap (clb d.1.1))) ?_ ?_
   ·refine count_from (fun i => (d.1.1 + 1, obs d.1.1 n ++ (d.2.take i).flatMap (clb d.1.1))) d.2.length (by rw [List.take_zero, List.flatMap_nil, List.append_nil]) (fun i hi => ?_) ?_
    ·rw [ltI (by show (i : Int) < (d.2.length : Int); omega), cond_true, idxM_lt hi, Option.bind_some]
     dsimp only
     have hx := obs_len d.1.1 n
     have hy := clbs_len d.1.1 (d.2.take i)
     rw [List.length_take] at hy
     have hs : (obs d.1.1 n ++ (d.2.take i).flatMap (clb d.1.1)).length ≤ 100 := by rw [List.length_append]; omega
     have et : (d.2.take (i + 1)).flatMap (clb d.1.1) = (d.2.take i).flatMap (clb d.1.1) ++ clb d.1.1 d.2[i] := by
      rw [List.take_succ_eq_append_getElem hi, List.flatMap_append]
      simp
     rw [et, ← List.append_assoc]
     have hv := vcl_of (hc _ (List.getElem_mem hi))
     generalize d.2[i] = c at hv ⊢
     generalize obs d.1.1 n ++ (d.2.take i).flatMap (clb d.1.1) = acc at hs ⊢
     obtain ⟨v1, v2, hv⟩ := hv
     have e138 : m138 c = some (c.2.2.2.1, IntKind.wrap IntKind.i64 (c.2.2.2.2 - 1)) := rfl
     have e139 : m139 c = some (c.2.2.2.1, 2100) := rfl
     have e140 : m140 c = some (0, c.2.2.2.1) := rfl
     have e141 : m141 c = some (c.2.2.2.1, c.2.2.2.2) := rfl
     have two : ∀ (y z : Bnd), Option.bind (appM (nat_lit 24) acc [y]) (fun r => Option.bind (appM (nat_lit 24) r [z]) fun r => (some (Sum.inr (d.1.1 + 1, r)) : Option ((Int × List Bnd) ⊕ (Int × List Bnd)))) = some (.inr (d.1.1 + 1, acc ++ [y, z])) := fun y z => by
      rw [app24 (by omega), Option.bind_some, app24 (by rw [List.length_append]; show _ + 1 ≤ _; omega), Option.bind_some, List.append_assoc]
      rfl
     refine bind_of (x := .inr (d.1.1 + 1, acc ++ clb d.1.1 c)) ?_ ?_
     ·unfold clb
      by_cases k1 : c.1 = 1
      ·rw [if_pos k1, show PE.orM (eqM c.1 (1 : Int)) (PE.orM (eqM c.1 (2 : Int)) (eqM c.1 (3 : Int))) = true by rw [eqI k1]; rfl, cond_true, eqI k1, cond_true]
       refine bind_of e138 ?_
       dsimp only
       rw [show PE.negM c.2.2.2.1 = -c.2.2.2.1 from rfl, wrap_in (n := -c.2.2.2.1) (by omega) (by omega), wrap_in (n := c.2.2.2.2 - 1) (by omega) (by omega)]
       exact two _ _
      ·rw [if_neg k1]
       by_cases k2 : c.1 = 2
       ·rw [if_pos k2, show PE.orM (eqM c.1 (1 : Int)) (PE.orM (eqM c.1 (2 : Int)) (eqM c.1 (3 : Int))) = true by rw [neI k1, eqI k2]; rfl, cond_true, neI k1, cond_false, eqI k2, cond_true]
        refine bind_of e139 ?_
        dsimp only
        rw [show PE.negM c.2.2.2.1 = -c.2.2.2.1 from rfl, wrap_in (by omega) (by omega)]
        exact two _ _
       ·rw [if_neg k2]
        by_cases k3 : c.1 = 3
        ·rw [if_pos k3, show PE.orM (eqM c.1 (1 : Int)) (PE.orM (eqM c.1 (2 : Int)) (eqM c.1 (3 : Int))) = true by rw [neI k1, neI k2, eqI k3]; rfl, cond_true, neI k1, cond_false, neI k2, cond_false, eqI k3, cond_true]
         refine bind_of e140 ?_
         dsimp only
         rw [show IntKind.wrap IntKind.i64 (PE.negM 0) = 0 from rfl]
         exact two _ _
        ·rw [if_neg k3, show PE.orM (eqM c.1 (1 : Int)) (PE.orM (eqM c.1 (2 : Int)) (eqM c.1 (3 : Int))) = false by rw [neI k1, neI k2, neI k3]; rfl, cond_false]
         have e45 : (bif eqM c.1 (4 : Int) then m141 c else bif eqM c.1 (5 : Int) then m141 c else none) = some (c.2.2.2.1, c.2.2.2.2) := by
          by_cases k4 : c.1 = 4
          ·rw [eqI k4, cond_true, e141]
          ·have k5 : c.1 = 5 := by omega
           rw [neI k4, cond_false, eqI k5, cond_true, e141]
         refine bind_of e45 ?_
         dsimp only
         rw [show PE.negM c.2.2.2.1 = -c.2.2.2.1 from rfl, wrap_in (by omega) (by omega)]
         exact two _ _
     ·rw [Sum.elim_inr, wrap_in (by omega) (by omega)]
    ·rw [geI (by show (d.2.length : Int) ≤ (d.2.length : Int); omega), cond_false, hL]
   ·rw [Sum.elim_inl, show ((d.1.1, d.1.2) : Int × List (Int × Int)) = d.1 from rfl, m28_eq hO, Option.bind_some]
    show Option.bind (loopM _ _) _ = _
    have hr := rpr_len d.1 hO
    have hx := obs_len d.1.1 n
    have hy := clbs_len d.1.1 d.2
    refine bind_of (x := bds d) ?_ rfl
    unfold bds
    rw [hn]
    generalize hacc : obs d.1.1 n ++ d.2.flatMap (clb d.1.1) = acc
    have hs : acc.length ≤ 60 := by rw [← hacc, List.length_append]; omega
    have hu : lst d.1.1.toNat (rdc d.1) d.1.1.toNat = rpr d.1 := rfl
    generalize hlr : rpr d.1 = R at hr hu ⊢
    rw [← hn, hu]
    refine count_from (fun i => (d.1.1 + 1, acc ++ prs (R.take i))) R.length (by rw [List.take_zero]; show _ = (_, acc ++ []); rw [List.append_nil]) (fun i hi => ?_) ?_
    ·rw [ltI (by show (i : Int) < (R.length : Int); omega), cond_true, idxM_lt hi, Option.bind_some]
     dsimp only
     rw [app24 (by rw [List.length_append, prs_len, List.length_take]; omega), Option.bind_some, wrap_in (by omega) (by omega), List.take_succ_eq_append_getElem hi, prs_append, List.append_assoc]
     rfl
    ·rw [geI (by show (R.length : Int) ≤ (R.length : Int); omega), cond_false, List.take_length]
 ·have h : vld d = false := by simpa using h
  rw [h, if_neg (by decide)]
  rfl
end Go.Proofs.YthfgccfaildmfaaGreatDoor
/-
 Dating: the bounds of a valid dating are a valid system; what Ranges and Allowed answer.
 No conditions.
-/
namespace Go.Proofs.YthfgccfaildmfaaGreatDoor
open Go Go.Abs Go.PE
open Ord (Rel clos)
set_option linter.unusedVariables false
set_option maxRecDepth 10000
theorem rl_tri {o : Int × List (Int × Int)} (h : frm o = true) {a b c : Nat} (h1 : rl o a b = true) (h2 : rl o b c = true) : rl o a c = true :=
 Ord.clos_tri _ b a c (clos_in h h1).2 h1 h2
theorem red_pair {o : Int × List (Int × Int)} (h : frm o = true) {a b : Nat} (hr : rdc o a b = true) : ((a : Int), (b : Int)) ∈ o.2 := by
 rw [rdc, Ord.red_iff] at hr
 obtain ⟨h1, h2⟩ := hr
 have := Ord.clos_ind (d := rel0 o.2) (P := fun a b => rl o a b = true ∧ (rel0 o.2 a b = true ∨ ∃ k, k < o.1.toNat ∧ rl o a k = true ∧ rl o k b = true)) (fun a b hab => ⟨Ord.clos_sub hab _, .inl hab⟩)
  (fun a b c g1 g2 => ⟨rl_tri h g1.1 g2.1, .inr ⟨b, (clos_in h g1.1).2, g1.1, g2.1⟩⟩) o.1.toNat a b h1
 rcases this.2 with g | ⟨k, g1, g2, g3⟩
 ·exact rel0_iff.1 g
 ·exact absurd ⟨g2, g3⟩ (h2 k g1)
theorem nodup_sub {α : Type} [DecidableEq α] : ∀ (m l : List α), m.Nodup → (∀ x ∈ m, x ∈ l) → m.length ≤ l.length
 | [], l, _, _ => by simp
 | x :: m, l, hn, hs => by
  rw [List.nodup_cons] at hn
  have hx := hs x (List.mem_cons_self ..)
  have := nodup_sub m (l.erase x) hn.2 fun y hy => by
   have hne : y ≠ x := fun e => hn.1 (e ▸ hy)
   exact (List.mem_erase_of_ne hne).2 (hs y (List.mem_cons_of_mem _ hy))
  rw [List.length_erase_of_mem hx] at this
  have hp := List.length_pos_of_mem hx
  rw [List.length_cons]
  omega
theorem lsr_nodup (n : Nat) (d : Rel) (a j : Nat) : (lsr n d a j).Nodup := by
 unfold lsr
 rw [List.nodup_iff_pairwise_ne, List.pairwise_map]
 have h : ((List.range j).filter fun b => d a b).Pairwise (· < ·) := (List.pairwise_lt_range).filter _
 refine h.imp fun {x y} hxy he => ?_
 have := (Prod.mk.inj he).2
 omega
theorem lst_nodup (n : Nat) (d : Rel) : ∀ i, (lst n d i).Nodup
 | 0 => by simp [lst]
 | i + 1 => by
  rw [lst_succ, List.nodup_append]
  refine ⟨lst_nodup n d i, lsr_nodup n d i n, fun x hx y hy he => ?_⟩
  subst he
  unfold lst at hx
  rw [List.mem_flatMap] at hx
  obtain ⟨a, ha, hx⟩ := hx
  rw [List.mem_range] at ha
  unfold lsr at hx hy
  rw [List.mem_map] at hx hy
  obtain ⟨b, _, rfl⟩ := hx
  obtain ⟨c, _, e⟩ := hy
  have := (Prod.mk.inj e).1
  omega
theorem mem_rpr {o : Int × List (Int × Int)} {p : Int × Int} : p ∈ rpr o ↔ ∃ a b : Nat, a < o.1.toNat ∧ b < o.1.toNat ∧ rdc o a b = true ∧ p = ((a : Int), (b : Int)) := mem_lst
theorem rpr_le {o : Int × List (Int × Int)} (h : okO o = true) : (rpr o).length ≤ o.2.length := by
 have hf : frm o = true := by unfold okO at h; rw [Bool.and_eq_true] at h; exact h.1
 refine nodup_sub _ _ (lst_nodup _ _ _) fun p hp => ?_
 obtain ⟨a, b, _, _, hr, rfl⟩ := mem_rpr.1 hp
 exact red_pair hf hr
theorem mem_bds {d : Dat} {c : Bnd} : c ∈ (bds d).2 ↔ (∃ a : Nat, a < d.1.1.toNat ∧ (c = ((a : Int), d.1.1, 0) ∨ c = (d.1.1, (a : Int), 2100))) ∨ (∃ q ∈ d.2, c ∈ clb d.1.1 q) ∨ ∃ a b : Nat, a < d.1.1.toNat ∧ b < d.1.1.toNat ∧ rdc d.1 a b = true ∧ c = ((b : Int), (a : Int), 0) := by
 unfold bds
 simp only [List.mem_append, List.mem_flatMap]
 rw [or_assoc]
 refine or_congr ?_ (or_congr Iff.rfl ?_)
 ·unfold obs
  rw [List.mem_flatMap]
  constructor
  ·rintro ⟨a, ha, hc⟩
   rw [List.mem_range] at ha
   simp only [List.mem_cons, List.not_mem_nil, or_false] at hc
   exact ⟨a, ha, hc⟩
  ·rintro ⟨a, ha, hc⟩
   exact ⟨a, List.mem_range.2 ha, by simpa using hc⟩
 ·unfold prs
  rw [List.mem_map]
  constructor
  ·rintro ⟨p, hp, rfl⟩
   obtain ⟨a, b, ha, hb, hr, rfl⟩ := mem_rpr.1 hp
   exact ⟨a, b, ha, hb, hr, rfl⟩
  ·rintro ⟨a, b, ha, hb, hr, rfl⟩
   exact ⟨_, mem_rpr.2 ⟨a, b, ha, hb, hr, rfl⟩, rfl⟩
theorem clb_bnd {n : Int} {q : Clu} (hn : n ≤ 8) (h : vcl n q = true) {c : Bnd} (hc : c ∈ clb n q) : 0 ≤ c.1 ∧ c.1 < n + 1 ∧ 0 ≤ c.2.1 ∧ c.2.1 < n + 1 ∧ -2101 ≤ c.2.2 ∧ c.2.2 ≤ 2101 := by
 obtain ⟨v1, v2, hv⟩ := vcl_of h
 unfold clb at hc
 split at hc
 ·simp only [List.mem_cons, List.not_mem_nil, or_false] at hc
  rcases hc with rfl | rfl <;> dsimp only <;> omega
 ·split at hc
  ·simp only [List.mem_cons, List.not_mem_nil, or_false] at hc
   rcases hc with rfl | rfl <;> dsimp only <;> omega
  ·split at hc <;>
   ·simp only [List.mem_cons, List.not_mem_nil, or_false] at hc
    rcases hc with rfl | rfl <;> dsimp only <;> omega
structure DOK (d : Dat) : Prop where
 v : vld d = true
 c : d.2.length ≤ 11
 p : d.1.2.length ≤ 20
theorem DOK.n0 {d : Dat} (h : DOK d) : 0 ≤ d.1.1 ∧ d.1.1 ≤ 8 := by
 obtain ⟨a, b, _, _⟩ := okO_of (vld_of h.v).1
 exact ⟨a, b⟩
theorem DOK.f {d : Dat} (h : DOK d) : frm d.1 = true := by
 have := (vld_of h.v).1
 unfold okO at this
 rw [Bool.and_eq_true] at this
 exact this.1
theorem bds_in {d : Dat} (h : DOK d) {c : Bnd} (hc : c ∈ (bds d).2) : 0 ≤ c.1 ∧ c.1 < d.1.1 + 1 ∧ 0 ≤ c.2.1 ∧ c.2.1 < d.1.1 + 1 ∧ -2101 ≤ c.2.2 ∧ c.2.2 ≤ 2101 := by
 have hn := h.n0
 rcases mem_bds.1 hc with ⟨a, ha, rfl | rfl⟩ | ⟨q, hq, hc⟩ | ⟨a, b, ha, hb, _, rfl⟩
 ·dsimp only; omega
 ·dsimp only; omega
 ·exact clb_bnd hn.2 ((vld_of h.v).2.2 q hq) hc
 ·dsimp only; omega
theorem DOK.s {d : Dat} (h : DOK d) : sys (bds d) = true := by
 have hn := h.n0
 unfold sys
 rw [Bool.and_eq_true]
 constructor
 ·refine decide_eq_true ⟨?_, ?_, ?_⟩
  ·show 0 ≤ d.1.1 + 1; omega
  ·show d.1.1 + 1 ≤ 16; omega
  ·have h1 := rpr_le (vld_of h.v).1
   have h2 := h.c
   have h3 := h.p
   unfold bds
   simp only [List.length_append, obs_len, clbs_len, prs_len]
   omega
 ·refine List.all_eq_true.2 fun c hc => decide_eq_true ?_
  have := bds_in h hc
  show 0 ≤ c.1 ∧ c.1 < d.1.1 + 1 ∧ 0 ≤ c.2.1 ∧ c.2.1 < d.1.1 + 1 ∧ -1000000000 ≤ c.2.2 ∧ c.2.2 ≤ 1000000000
  omega
def og (d : Dat) : Nat := d.1.1.toNat
theorem bds_n {d : Dat} (h : DOK d) : (bds d).1.toNat = og d + 1 := by
 have hn := h.n0
 show (d.1.1 + 1).toNat = d.1.1.toNat + 1
 omega
theorem og_is {d : Dat} (h : DOK d) : ((og d : Nat) : Int) = d.1.1 := by
 have hn := h.n0
 unfold og
 omega
theorem fw_or {d : Dat} (h : DOK d) (ho : ovS (bds d) = false) {a : Nat} (ha : a < og d) :
  -2100 ≤ fwS (bds d) a (og d) ∧ fwS (bds d) a (og d) ≤ 0 ∧ 0 ≤ fwS (bds d) (og d) a ∧ fwS (bds d) (og d) a ≤ 2100 ∧ 0 ≤ fwS (bds d) a (og d) + fwS (bds d) (og d) a := by
 have hN := bds_n h
 have e := og_is h
 have h1 : fwS (bds d) a (og d) ≤ 0 := fw_bound (mem_bds.2 (.inl ⟨a, ha, .inl (by rw [e])⟩))
 have h2 : fwS (bds d) (og d) a ≤ 2100 := fw_bound (mem_bds.2 (.inl ⟨a, ha, .inr (by rw [e])⟩))
 have h3 := fw_tri' h.s ho (i := a) (k := og d) (j := a) (by omega) (by omega) (by omega) (by omega) (by omega)
 rw [fw_self ho (by omega)] at h3
 omega
def lo (d : Dat) (a : Nat) : Int := -fwS (bds d) a (og d)
def hi (d : Dat) (a : Nat) : Int := fwS (bds d) (og d) a
def rng (d : Dat) : List (Int × Int) := row (og d) fun a => (lo d a, hi d a + 1)
theorem m17_good {d : Dat} (h : DOK d) (ho : ovS (bds d) = false) : m17 d = some (rng d, 0) := by
 unfold m17
 rw [show (((d.1.1, d.1.2), d.2) : Dat) = d from rfl, m24_eq, if_pos h.v, Option.bind_some, show (((bds d, (0 : Int)) : (Int × List Bnd) × Int).1.1, ((bds d, (0 : Int)) : (Int × List Bnd) × Int).1.2) = bds d from rfl, m25_good h.s ho, Option.bind_some]
 have hn := h.n0
 have hN := bds_n h
 have e := og_is h
 rw [show PE.orM (PE.notM (eqM (0 : Int) (0 : Int))) (PE.notM (eqM (0 : Int) (0 : Int))) = false from rfl, cond_false]
 refine bind_of (x := rng d) ?_ rfl
 rw [← e]
 refine count_from (fun i => row i fun a => (lo d a, hi d a + 1)) (og d) rfl (fun i hi' => ?_) ?_
 ·have F := fw_or h ho hi'
  rw [ltI (by dsimp only; omega), cond_true]
  dsimp only
  rw [rt_idx (by omega), Option.bind_some, row_idx (by omega), Option.bind_some, rt_idx (by omega), Option.bind_some, row_idx (by omega), Option.bind_some, show PE.negM (fwS (bds d) i (og d)) = -fwS (bds d) i (og d) from rfl, wrap_in (n := -fwS (bds d) i (og d)) (by omega) (by omega), wrap_in (n := fwS (bds d) (og d) i + 1) (by omega) (by omega), wrap_in (n := (i : Int) + 1) (by omega) (by omega)]
  rw [app_rowOf (y := (-fwS (bds d) i (og d), fwS (bds d) (og d) i + 1)) (g := fun a => (lo d a, hi d a + 1)) rfl (by show (i + 1) * 16 ≤ _; omega), Option.bind_some]
 ·rw [geI (by dsimp only; omega), cond_false]; rfl
end Go.Proofs.YthfgccfaildmfaaGreatDoor
