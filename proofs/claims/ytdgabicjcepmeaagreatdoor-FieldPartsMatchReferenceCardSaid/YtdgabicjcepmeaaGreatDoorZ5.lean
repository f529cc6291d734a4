/-
 Texts of this proof, put together: M3, M4, M5, PA, PB, PC, PD, Fa, Fd, Fe, Fp, Fk, Fl, Fm, Fn, Fo, Fq, Fr, Ft, Fu, Fv, Fw, Ha, Hb, Hc, He, Hf, Hg, Hh, Hi, Hj, Ga, Ia, Ib.
 No conditions.
-/
import Derived.Test.YtdgabicjcepmeaaGreatDoorZ4
import Derived.IntWalk
import Derived.Lib.ItoaNum
import Derived.Lib.AtoiAll
import Derived.Lib.Repeat
import Derived.Lib.SlTrimSet
import Derived.Lib.Strings
set_option linter.all false
namespace Go.Proofs.YtdgabicjcepmeaaGreatDoor
open Go Go.Abs Go.PE Go.Proofs
open Go.IntKind (wrap)
set_option maxRecDepth 100000
noncomputable section

/-! putlog/putlogref07.Turn -/
def as50:List Ty:=[tP,tP,tP]
def rs50:List Ty:=[tI]
def an50:Ann:=.a
def m50:((Int×Int)×(Int×Int)×Int×Int)→Option (Int) :=
 fun x=>some (wrap .i64 (wrap .i64 (wrap .i64 (x.2.1.1-x.1.1)*wrap .i64 (x.2.2.2-x.1.2))-wrap .i64 (wrap IntKind.i64
 (x.2.1.2-x.1.2)*wrap .i64 (x.2.2.1-x.1.1))))
theorem c50:SpecOK Tryz.prog 50 ⟨as50,rs50,m50⟩ :=
 fc tabs6OK [] an50 Tryz.f50 fun x=>by kernel_rfl
def tabs50:Tabs:=Tabs.add tabs6 50 ⟨as50,rs50,m50⟩
theorem tabs50OK:TabOK Tryz.prog tabs50:=TabOK.add tabs6OK c50 Tryz.call50

/-! putlog/putlogref07.far -/
def as51:List Ty:=[tP,tP]
def rs51:List Ty:=[tI]
def an51:Ann:=.a
def m51:((Int×Int)×Int×Int)→Option (Int) :=
 fun x=>some (wrap .i64 (wrap .i64 (wrap .i64 (x.1.1-x.2.1)*wrap .i64 (x.1.1-x.2.1))+wrap .i64 (wrap IntKind.i64
 (x.1.2-x.2.2)*wrap .i64 (x.1.2-x.2.2))))
theorem c51:SpecOK Tryz.prog 51 ⟨as51,rs51,m51⟩ :=
 fc tabs50OK [] an51 Tryz.f51 fun x=>by kernel_rfl
def tabs51:Tabs:=Tabs.add tabs50 51 ⟨as51,rs51,m51⟩
theorem tabs51OK:TabOK Tryz.prog tabs51:=TabOK.add tabs50OK c51 Tryz.call51

/-! putlog/putlogref07.Hull -/
def as23:List Ty:=[tQ]
def rs23:List Ty:=[tQ]
def an23:Ann:=.seq (.a) (.seq (.a) (.seq (.seq (.a) (.block (.loop ⟨[(4,.r (.c (.d (.d tI))))],(ra 13 38 ([])),[(0,.box [.d (.d tI),.d (.d tI)])],[]⟩ [(.exit 0,⟨[],(4::ra 13 38 ([])),[(0,.box [.d (.d tI),.d (.d tI)])],[]⟩)] (.seq (.a) (.seq (.join [(.norm,⟨[],(ra 19 32 ([])),[(0,.box [.d (.d tI),.d (.d tI)])],[]⟩)] (.block (.seq (.reg [0,0,3,7,15,0,32,127,255,511,511,2047,4095,8191,511,16895,65535,131071,262143,262143,1048575,2097151,4194303,262143,8650751,33554431,67108863,134217727] (ra 0 28 ([])) (za 6 (.s [0] []::za 8 (.s [0] []::za 8 (.s [0] []::za 3 ([]))))) (.a)) (.a)))) (.a)))))) (.seq (.a) (.seq (.a) (.block (.loop ⟨[(5,.r (.c (.h 3))),(6,.r (.c (.p 4 0)))],(7::8::9::ra 54 55 (ra 110 6 ([]))),[(1,.gone),(2,.gone)],[.arr tP,.box [.d (.d tI),.d (.d tI)]]⟩ [(.ret,⟨[(2,.r (.c (.h 3)))],(5::6::7::8::9::ra 54 62 ([])),[(1,.gone),(2,.gone)],[.arr tP]⟩)] (.seq (.block (.seq (.a) (.seq (.seq (.a) (.block (.loop ⟨[(8,.r (.c (.d (.d tI))))],(9::ra 55 46 ([])),[(5,.box [.d (.d tI),.d (.d tI)])],[]⟩ [(.exit 4,⟨[],(8::9::ra 55 46 ([])),[(5,.box [.d (.d tI),.d (.d tI)])],[]⟩)] (.seq (.a) (.seq (.join [(.norm,⟨[],(9::ra 61 40 ([])),[(5,.box [.d (.d tI),.d (.d tI)])],[]⟩)] (.block (.seq (.seq (.reg [0,0,3,7,0,31] (ra 0 6 ([])) (za 4 (.s [4] []::z0::[])) (.a)) (.a)) (.seq (.reg [0,0,0,0,12,28,63,127] (ra 0 8 ([])) (.s [4] []::.s [5] []::za 6 ([])) (.a)) (.seq (.reg [0,0,3,7,15,31,63,127,255,511,1023,2047,2047,2047,14335,30719,65535,2047,2047,524287,1048575,2097151,4194303] (ra 0 23 ([])) (.s [5] []::.s [4] []::za 9 (.s [4] []::za 5 (.s [4] []::.s [5] []::za 4 ([])))) (.a)) (.a)))))) (.a)))))) (.a)))) (.a))))))))
def m23:(List (Int×Int))→Option (List (Int×Int)) :=
 fun x=>(idxM x 0).bind fun r=>(loopM (fun (s:Int×Int×Int)=>bif ltM s.1 (lenM x) then ((idxM x s.1).bind fun r_1=>(bif PE.notM (ltM r_1.2 s.2.2)
 then idxM x s.1 else some (0,0)).bind fun r_2=>(bif PE.andM (PE.notM (ltM r_1.2 s.2.2)) (eqM r_2.2 s.2.2) then idxM x s.1 else some (0,0)).bind fun r_3 =>
 bif PE.orM (ltM r_1.2 s.2.2) (PE.andM (eqM r_2.2 s.2.2) (ltM r_3.1 s.2.1)) then (idxM x s.1).bind fun r=>some (r.1,r.2) else some (s.2.1,s.2.2)).bind fun
 o=>some (Sum.inl (wrap .i64 (s.1+1),o.1,o.2)) else some (Sum.inr (s.2.1,s.2.2))) (0,r.1,r.2)).bind fun o=>(loopM (fun (s:List (Int×Int)
 × Int×Int)=>(loopM (fun (s_1:Int×Int×Int)=>bif ltM s_1.1 (lenM x) then ((idxM x s_1.1).bind fun r_1=>bif PE.andM (eqM r_1.1 s.2.1) (eqM r_1.2
 s.2.2) then some (s_1.2.1,s_1.2.2) else (idxM x s_1.1).bind fun r_2=>(m50 ((s.2.1,s.2.2),(s_1.2.1,s_1.2.2),r_2.1,r_2.2)).bind fun r_3=>(bif PE.andM
 (PE.notM (PE.orM (PE.andM (eqM s_1.2.1 s.2.1) (eqM s_1.2.2 s.2.2)) (ltM r_3 0))) (eqM r_3 0) then idxM x s_1.1 else some (0,0)).bind fun r_4=>(bif PE.andM
 (PE.notM (PE.orM (PE.andM (eqM s_1.2.1 s.2.1) (eqM s_1.2.2 s.2.2)) (ltM r_3 0))) (eqM r_3 0) then m51 ((s.2.1,s.2.2),r_4.1,r_4.2) else some 0).bind fun r_5
 => (bif PE.andM (PE.notM (PE.orM (PE.andM (eqM s_1.2.1 s.2.1) (eqM s_1.2.2 s.2.2)) (ltM r_3 0))) (eqM r_3 0) then m51 ((s.2.1,s.2.2),s_1.2.1,s_1.2.2) else
 some 0).bind fun r_6=>bif PE.orM (PE.orM (PE.andM (eqM s_1.2.1 s.2.1) (eqM s_1.2.2 s.2.2)) (ltM r_3 0)) (PE.andM (eqM r_3 0) (ltM r_6 r_5)) then (idxM x
 s_1.1).bind fun r=>some (r.1,r.2) else some (s_1.2.1,s_1.2.2)).bind fun o=>some (Sum.inl (wrap .i64 (s_1.1+1),o.1,o.2)) else some (Sum.inr
 (s_1.2.1,s_1.2.2))) (0,s.2.1,s.2.2)).bind fun o_1=>bif PE.orM (PE.andM (eqM o_1.1 s.2.1) (eqM o_1.2 s.2.2)) (PE.andM (eqM o_1.1 o.1) (eqM o_1.2 o.2))
 then some (Sum.inr s.1) else (appM (nat_lit 16) s.1 [(o_1.1,o_1.2)]).bind fun r=>some (Sum.inl (r,o_1.1,o_1.2))) ([(o.1,o.2)],o.1,o.2)).bind fun o =>
 some o
theorem c23:SpecOK Tryz.prog 23 ⟨as23,rs23,m23⟩ :=
 fc tabs51OK [52,112] an23 Tryz.f23 fun x=>by kernel_rfl
def tabs23:Tabs:=Tabs.add tabs51 23 ⟨as23,rs23,m23⟩
theorem tabs23OK:TabOK Tryz.prog tabs23:=TabOK.add tabs51OK c23 Tryz.call23

/-! putlog/putlogref25.Part -/
def as7:List Ty:=[(.pair tI (.pair tI (.pair tL tL))),tQ]
def rs7:List Ty:=[tQ]
def an7:Ann:=.seq (.a) (.seq (.a) (.seq (.a) (.seq (.seq (.a) (.block (.loop ⟨[(6,.r (.c (.h 1))),(7,.r (.c (.d (.d tI))))],(ra 22 32 ([])),[],[.arr tP]⟩ [(.exit 0,⟨[(6,.r (.c (.h 1)))],(7::ra 22 32 ([])),[],[.arr tP]⟩)] (.seq (.a) (.seq (.block (.reg [0,0,0,6,14,30,0,64,192,510,0,0,3072,7168,15360,0,32768,98304,262142,524286,1048574,2097151,4194303] (ra 0 23 ([])) (za 7 (.s [0] []::za 8 (.s [0] []::za 4 (.s [1] [2,1]::z0::[])))) (.a))) (.a)))))) (.a))))
def m7:((Int×Int×List Int×List Int)×List (Int×Int))→Option (List (Int×Int)) :=
 fun x=>(loopM (fun (s:Int×List (Int×Int))=>bif PE.andM (ltM s.1 (lenM x.2)) (ltM s.1 8) then (idxM x.2 s.1).bind fun r=>(m22 (r.1,wrap IntKind.i64
 (x.1.1+1))).bind fun r_1=>(idxM x.2 s.1).bind fun r_2=>(m22 (r_2.2,wrap .i64 (x.1.2.1+1))).bind fun r_3=>(appM (nat_lit 16) s.2 [(r_1,
 r_3)]).bind fun r=>some (Sum.inl (wrap .i64 (s.1+1),r)) else some (Sum.inr s.2)) (0,[])).bind fun o=>bif eqM (lenM o) 0 then some [(0,0),
 (x.1.1,0),(x.1.1,x.1.2.1),(0,x.1.2.1)] else (m23 o).bind fun r=>bif leM 3 (lenM r) then some r else some [(0,0),(x.1.1,0),(x.1.1,x.1.2.1),(0,
 x.1.2.1)]
theorem c7:SpecOK Tryz.prog 7 ⟨as7,rs7,m7⟩ :=
 fc tabs23OK [] an7 Tryz.f7 fun x=>by kernel_rfl
def tabs7:Tabs:=Tabs.add tabs23 7 ⟨as7,rs7,m7⟩
theorem tabs7OK:TabOK Tryz.prog tabs7:=TabOK.add tabs23OK c7 Tryz.call7

/-! putlog/putlogref25.Valid -/
def as35:List Ty:=[(.pair tI (.pair tI (.pair tL tL)))]
def rs35:List Ty:=[.bool]
def an35:Ann:=.seq (.a) (.seq (.a) (.seq (.seq (.a) (.block (.loop ⟨[(3,.r (.c (.d (.d tI))))],(ra 44 34 ([])),[],[]⟩ [(.exit 0,⟨[],(3::ra 44 34 ([])),[],[]⟩),(.ret,⟨[(2,.r (.c (.d (.d .bool))))],(3::ra 44 34 ([])),[],[]⟩)] (.seq (.a) (.seq (.block (.seq (.reg [0,1,0,7,15,31,63,127,255,127,1023,2047,127,4223,127,28799,61567,131071,262143,524287,1048575,2097151,1048575,8388607,16777215,33554431,67108863] (ra 0 27 ([])) (z0::.s [0] []::za 6 (.s [0] []::za 4 (.s [0] []::za 7 (.s [0] []::za 5 ([]))))) (.a)) (.a))) (.a)))))) (.a)))
def m35:(Int×Int×List Int×List Int)→Option (Bool) :=
 fun x=>bif PE.orM (PE.orM (PE.orM (PE.orM (PE.orM (ltM x.1 1) (ltM 6 x.1)) (ltM x.2.1 1)) (ltM 6 x.2.1)) (PE.notM (eqM (lenM x.2.2.1) (wrap .i64 (wrap
 IntKind.i64 (x.1+1)*wrap .i64 (x.2.1+1)))))) (PE.notM (eqM (lenM x.2.2.2) (lenM x.2.2.1))) then some false else (loopM (fun (s:Int)=>bif ltM
 s (lenM x.2.2.1) then (idxM x.2.2.1 s).bind fun r=>(bif PE.notM (ltM r 0) then idxM x.2.2.1 s else some 0).bind fun r_1=>(bif PE.notM (ltM r 0) then idxM
 x.2.2.2 s else some 0).bind fun r_2=>(bif PE.notM (PE.orM (ltM r 0) (ltM r_2 r_1)) then idxM x.2.2.2 s else some 0).bind fun r_3=>bif PE.orM (PE.orM (ltM
 r 0) (ltM r_2 r_1)) (ltM 100 r_3) then some (Sum.inr (Sum.inr false)) else some (Sum.inl (wrap .i64 (s+1))) else some (Sum.inr (Sum.inl ()))) 0).bind
 fun o=>Sum.elim (fun (t:Unit)=>some true) (fun (t:Bool)=>some t) o
theorem c35:SpecOK Tryz.prog 35 ⟨as35,rs35,m35⟩ :=
 fc tabs7OK [] an35 Tryz.f35 fun x=>by kernel_rfl
def tabs35:Tabs:=Tabs.add tabs7 35 ⟨as35,rs35,m35⟩
theorem tabs35OK:TabOK Tryz.prog tabs35:=TabOK.add tabs7OK c35 Tryz.call35

/-! putlog/putlogref07.OnMap -/
def as63:List Ty:=[tP]
def rs63:List Ty:=[.bool]
def an63:Ann:=.a
def m63:(Int×Int)→Option (Bool) :=
 fun x=>some (PE.andM (PE.andM (PE.andM (leM 0 x.1) (leM x.1 40)) (leM 0 x.2)) (leM x.2 40))
theorem c63:SpecOK Tryz.prog 63 ⟨as63,rs63,m63⟩ :=
 fc tabs35OK [] an63 Tryz.f63 fun x=>by kernel_rfl
def tabs63:Tabs:=Tabs.add tabs35 63 ⟨as63,rs63,m63⟩
theorem tabs63OK:TabOK Tryz.prog tabs63:=TabOK.add tabs35OK c63 Tryz.call63

/-! putlog/putlogref07.end -/
def as64:List Ty:=[tQ,tI]
def rs64:List Ty:=[tP]
def an64:Ann:=.a
def m64:((List (Int×Int))×Int)→Option (Int×Int) :=
 fun x=>(remM (wrap .i64 (x.2+1)) (lenM x.1)).bind fun r=>(idxM x.1 r).bind fun r=>some (r.1,r.2)
theorem c64:SpecOK Tryz.prog 64 ⟨as64,rs64,m64⟩ :=
 fc tabs63OK [] an64 Tryz.f64 fun x=>by kernel_rfl
def tabs64:Tabs:=Tabs.add tabs63 64 ⟨as64,rs64,m64⟩
theorem tabs64OK:TabOK Tryz.prog tabs64:=TabOK.add tabs63OK c64 Tryz.call64

/-! putlog/putlogref07.Valid -/
def as36:List Ty:=[tQ]
def rs36:List Ty:=[.bool]
def an36:Ann:=.seq (.a) (.seq (.a) (.seq (.seq (.a) (.block (.loop ⟨[(3,.r (.c (.d (.d tI))))],(ra 14 12 ([])),[],[]⟩ [(.exit 0,⟨[],(3::ra 14 12 ([])),[],[]⟩),(.ret,⟨[(2,.r (.c (.d (.d .bool))))],(3::ra 14 12 ([])),[],[]⟩)] (.a)))) (.seq (.seq (.a) (.block (.loop ⟨[(4,.r (.c (.d (.d tI))))],(5::ra 26 39 ([])),[],[]⟩ [(.exit 2,⟨[],(4::5::ra 26 39 ([])),[],[]⟩),(.ret,⟨[(2,.r (.c (.d (.d .bool))))],(4::5::ra 26 39 ([])),[],[]⟩)] (.seq (.a) (.seq (.block (.seq (.a) (.block (.loop ⟨[(5,.r (.c (.d (.d tI))))],(ra 32 33 ([])),[],[]⟩ [(.exit 4,⟨[],(5::ra 32 33 ([])),[],[]⟩),(.ret,⟨[(2,.r (.c (.d (.d .bool))))],(5::ra 32 33 ([])),[],[]⟩)] (.seq (.a) (.seq (.block (.seq (.reg [0,0,3,7,15,15,47,15,143,495,1023,2047,4095,8191,8191,32767,65535,8191,8191,401407,8191,8191,3153919,7348223,16777215,33554431,67108863] (ra 0 27 ([])) (za 27 ([])) (.a)) (.a))) (.a))))))) (.a)))))) (.a))))
def m36:(List (Int×Int))→Option (Bool) :=
 fun x=>bif PE.orM (ltM (lenM x) 3) (ltM 8 (lenM x)) then some false else (loopM (fun (s:Int)=>bif ltM s (lenM x) then (idxM x s).bind fun r=>(m63 (r.1,
 r.2)).bind fun r=>bif PE.notM r then some (Sum.inr (Sum.inr false)) else some (Sum.inl (wrap .i64 (s+1))) else some (Sum.inr (Sum.inl ()))) 0).bind
 fun o=>Sum.elim (fun (t:Unit)=>(loopM (fun (s:Int)=>bif ltM s (lenM x) then (loopM (fun (s_1:Int)=>bif ltM s_1 (lenM x) then (bif PE.notM (eqM
 s_1 s) then remM (wrap .i64 (s+1)) (lenM x) else some 0).bind fun r=>(bif PE.andM (PE.notM (eqM s_1 s)) (PE.notM (eqM s_1 r)) then idxM x s else
 some (0,0)).bind fun r_1=>(bif PE.andM (PE.notM (eqM s_1 s)) (PE.notM (eqM s_1 r)) then m64 (x,s) else some (0,0)).bind fun r_2=>(bif PE.andM (PE.notM
 (eqM s_1 s)) (PE.notM (eqM s_1 r)) then idxM x s_1 else some (0,0)).bind fun r_3=>(bif PE.andM (PE.notM (eqM s_1 s)) (PE.notM (eqM s_1 r)) then m50
 ((r_1.1,r_1.2),(r_2.1,r_2.2),r_3.1,r_3.2) else some 0).bind fun r_4=>bif PE.andM (PE.andM (PE.notM (eqM s_1 s)) (PE.notM (eqM s_1 r))) (leM r_4 0) then
 some (Sum.inr (Sum.inr false)) else some (Sum.inl (wrap .i64 (s_1+1))) else some (Sum.inr (Sum.inl ()))) 0).bind fun o=>Sum.elim (fun (t:Unit) =>
 some (Sum.inl (wrap .i64 (s+1)))) (fun (t:Bool)=>some (Sum.inr (Sum.inr t))) o else some (Sum.inr (Sum.inl ()))) 0).bind fun o=>Sum.elim (fun
 (t:Unit)=>some true) (fun (t:Bool)=>some t) o) (fun (t:Bool)=>some t) o
theorem c36:SpecOK Tryz.prog 36 ⟨as36,rs36,m36⟩ :=
 fc tabs64OK [] an36 Tryz.f36 fun x=>by kernel_rfl
def tabs36:Tabs:=Tabs.add tabs64 36 ⟨as36,rs36,m36⟩
theorem tabs36OK:TabOK Tryz.prog tabs36:=TabOK.add tabs64OK c36 Tryz.call36

/-! putlog/putlogref03.text -/
def as126:List Ty:=[.bool,tL]
def rs126:List Ty:=[.str,.bool]
def an126:Ann:=.seq (.a) (.seq (.a) (.seq (.a) (.seq (.join [(.norm,⟨[(6,.r (.c (.h 0)))],[11,12,13,14],[],[.arr (.int .u8)]⟩)] (.a)) (.seq (.seq (.a) (.block (.loop ⟨[(6,.r (.c (.h 1))),(7,.r (.c (.d (.d tI))))],(ra 18 13 ([])),[(0,.gone)],[.arr (.int .u8)]⟩ [(.exit 0,⟨[(6,.r (.c (.h 1)))],(7::ra 18 13 ([])),[(0,.gone)],[.arr (.int .u8)]⟩)] (.a)))) (.a)))))
def m126:(Bool×List Int)→Option (List UInt8×Bool) :=
 fun x=>bif eqM (lenM x.2) 0 then some ([(48:UInt8)],true) else (bif x.1 then (appM (nat_lit 1) [] [45]).bind fun r=>some r else some []).bind fun o =>
 (loopM (fun (s:Int×List Int)=>bif leM 0 s.1 then (idxM x.2 s.1).bind fun r=>(appM (nat_lit 1) s.2 [wrap IntKind.u8 (wrap .i64 (48+r))]).bind
 fun r=>some (Sum.inl (wrap .i64 (s.1-1),r)) else some (Sum.inr s.2)) (wrap .i64 (lenM x.2-1),o)).bind fun o=>some (strB o,leM (lenM
 x.2) 200)
theorem c126:SpecOK Tryz.prog 126 ⟨as126,rs126,m126⟩ :=
 fc tabs36OK [] an126 Tryz.f126 fun x=>by kernel_rfl
def tabs126:Tabs:=Tabs.add tabs36 126 ⟨as126,rs126,m126⟩
theorem tabs126OK:TabOK Tryz.prog tabs126:=TabOK.add tabs36OK c126 Tryz.call126

/-! putlog/putlogref03.FromInt -/
def as87:List Ty:=[tI]
def rs87:List Ty:=[.str]
def an87:Ann:=.seq (.a) (.seq (.a) (.seq (.seq (.a) (.block (.loop ⟨[(3,.r (.c (.h 0))),(4,.r (.c (.d (.d tI))))],(5::ra 9 14 ([])),[],[.arr tI]⟩ [(.exit 0,⟨[(3,.r (.c (.h 0)))],(4::5::ra 9 14 ([])),[],[.arr tI]⟩)] (.seq (.a) (.seq (.block (.seq (.a) (.seq (.join [(.norm,⟨[(5,.r (.c (.d (.d tI))))],[15,16,17,18],[],[]⟩)] (.a)) (.a)))) (.a)))))) (.a)))
def m87:Int→Option (List UInt8) :=
 fun x=>(loopM (fun (s:Int×List Int)=>bif PE.notM (eqM s.1 0) then (remM s.1 10).bind fun r=>(bif ltM r 0 then some (wrap .i64 (negM r)) else
 some r).bind fun o=>(appM (nat_lit 8) s.2 [o]).bind fun r_1=>(divM .i64 s.1 10).bind fun r=>some (Sum.inl (r,r_1)) else some (Sum.inr s.2)) (x,
 [])).bind fun o=>(m126 (ltM x 0,o)).bind fun r=>some r.1
theorem c87:SpecOK Tryz.prog 87 ⟨as87,rs87,m87⟩ :=
 fc tabs126OK [] an87 Tryz.f87 fun x=>by kernel_rfl
def tabs87:Tabs:=Tabs.add tabs126 87 ⟨as87,rs87,m87⟩
theorem tabs87OK:TabOK Tryz.prog tabs87:=TabOK.add tabs126OK c87 Tryz.call87

/-! putlog/putlogref03.Valid -/
def as122:List Ty:=[.str]
def rs122:List Ty:=[.bool]
def an122:Ann:=.seq (.a) (.seq (.join [(.ret,⟨[(2,.r (.c (.d (.d .bool))))],(0::ra 4 12 ([])),[],[]⟩),(.norm,⟨[(0,.r (.c (.d (.d .str))))],(ra 4 12 ([])),[],[]⟩)] (.a)) (.seq (.seq (.a) (.block (.loop ⟨[(3,.r (.c (.d (.d tI))))],(ra 16 16 ([])),[],[]⟩ [(.exit 0,⟨[],(3::ra 16 16 ([])),[],[]⟩),(.ret,⟨[(2,.r (.c (.d (.d .bool))))],(3::ra 16 16 ([])),[],[]⟩)] (.a)))) (.a)))
def m122:List UInt8→Option (Bool) :=
 fun x=>((bif ltM 0 (lenM x) then byteM x 0 else some 0).bind fun r=>bif PE.andM (ltM 0 (lenM x)) (eqM r 45) then (sliceM x 1 (lenM x)).bind fun r=>bif
 eqsM r [(48:UInt8)] then some (Sum.inl false) else some (Sum.inr r) else some (Sum.inr x)).bind fun o=>Sum.elim (fun (t:Bool)=>some t) (fun (t:List
 UInt8)=>(loopM (fun (s:Int)=>bif ltM s (lenM t) then (byteM t s).bind fun r=>(bif PE.notM (ltM r 48) then byteM t s else some 0).bind fun r_1=>bif
 PE.orM (ltM r 48) (ltM 57 r_1) then some (Sum.inr (Sum.inr false)) else some (Sum.inl (wrap .i64 (s+1))) else some (Sum.inr (Sum.inl ()))) 0).bind
 fun o=>Sum.elim (fun (t_1:Unit)=>(bif PE.andM (PE.andM (ltM 0 (lenM t)) (leM (lenM t) 200)) (PE.notM (eqsM t [(48:UInt8)])) then byteM t 0 else some
 0).bind fun r=>some (PE.andM (PE.andM (ltM 0 (lenM t)) (leM (lenM t) 200)) (PE.orM (eqsM t [(48:UInt8)]) (PE.notM (eqM r 48))))) (fun (t:Bool)=>some
 t) o) o
theorem c122:SpecOK Tryz.prog 122 ⟨as122,rs122,m122⟩ :=
 fc tabs87OK [] an122 Tryz.f122 fun x=>by kernel_rfl
def tabs122:Tabs:=Tabs.add tabs87 122 ⟨as122,rs122,m122⟩
theorem tabs122OK:TabOK Tryz.prog tabs122:=TabOK.add tabs87OK c122 Tryz.call122

/-! putlog/putlogref03.digits -/
def as127:List Ty:=[.str]
def rs127:List Ty:=[.bool,tL]
def an127:Ann:=.seq (.a) (.seq (.a) (.seq (.join [(.norm,⟨[(0,.r (.c (.d (.d .str))))],[10,11,12],[],[]⟩)] (.a)) (.seq (.a) (.seq (.seq (.a) (.block (.loop ⟨[(5,.r (.c (.h 0))),(6,.r (.c (.d (.d tI))))],(ra 16 16 ([])),[],[.arr tI]⟩ [(.exit 0,⟨[(5,.r (.c (.h 0)))],(6::ra 16 16 ([])),[],[.arr tI]⟩)] (.a)))) (.a)))))
def m127:List UInt8→Option (Bool×List Int) :=
 fun x=>(byteM x 0).bind fun r=>(bif eqM r 45 then (sliceM x 1 (lenM x)).bind fun r=>some r else some x).bind fun o=>(loopM (fun (s:Int×List Int) =>
 bif PE.andM (leM 0 s.1) (PE.notM (eqsM o [(48:UInt8)])) then (byteM o s.1).bind fun r_1=>(appM (nat_lit 8) s.2 [wrap .i64 (wrap IntKind.u8 (r_1 -
 48))]).bind fun r=>some (Sum.inl (wrap .i64 (s.1-1),r)) else some (Sum.inr s.2)) (wrap .i64 (lenM o-1),[])).bind fun o=>some (eqM r
 45,o)
theorem c127:SpecOK Tryz.prog 127 ⟨as127,rs127,m127⟩ :=
 fc tabs122OK [] an127 Tryz.f127 fun x=>by kernel_rfl
def tabs127:Tabs:=Tabs.add tabs122 127 ⟨as127,rs127,m127⟩
theorem tabs127OK:TabOK Tryz.prog tabs127:=TabOK.add tabs122OK c127 Tryz.call127

/-! putlog/putlogref03.order -/
def as157:List Ty:=[tL,tL]
def rs157:List Ty:=[tI]
def an157:Ann:=.seq (.a) (.seq (.a) (.seq (.seq (.a) (.block (.loop ⟨[(5,.r (.c (.d (.d tI))))],(ra 19 13 ([])),[],[]⟩ [(.exit 0,⟨[],(5::ra 19 13 ([])),[],[]⟩),(.ret,⟨[(4,.r (.c (.d (.d tI))))],(5::ra 19 22 ([])),[],[]⟩)] (.seq (.a) (.seq (.block (.seq (.reg [0,0,3,7,0,0,48,112,255] (ra 0 9 ([])) (za 9 ([])) (.a)) (.cond (.seq (.seq (.reg [0,0,3,7,0,0,48,112,255] (ra 0 9 ([])) (za 9 ([])) (.a)) (.a)) (.a)) (.a)))) (.a)))))) (.a)))
def m157:(List Int×List Int)→Option (Int) :=
 fun x=>bif PE.notM (eqM (lenM x.1) (lenM x.2)) then bif ltM (lenM x.1) (lenM x.2) then some (-1) else some 1 else (loopM (fun (s:Int)=>bif leM 0 s then
 (idxM x.1 s).bind fun r=>(idxM x.2 s).bind fun r_1=>bif PE.notM (eqM r r_1) then (idxM x.1 s).bind fun r_2=>(idxM x.2 s).bind fun r=>bif ltM r_2 r
 then some (Sum.inr (Sum.inr (-1))) else some (Sum.inr (Sum.inr 1)) else some (Sum.inl (wrap .i64 (s-1))) else some (Sum.inr (Sum.inl ()))) (wrap
 IntKind.i64 (lenM x.1-1))).bind fun o=>Sum.elim (fun (t:Unit)=>some 0) (fun (t:Int)=>some t) o
theorem c157:SpecOK Tryz.prog 157 ⟨as157,rs157,m157⟩ :=
 fc tabs127OK [] an157 Tryz.f157 fun x=>by kernel_rfl
def tabs157:Tabs:=Tabs.add tabs127 157 ⟨as157,rs157,m157⟩
theorem tabs157OK:TabOK Tryz.prog tabs157:=TabOK.add tabs127OK c157 Tryz.call157

/-! putlog/putlogref03.Compare -/
def as123:List Ty:=[.str,.str]
def rs123:List Ty:=[tI]
def an123:Ann:=.a
def m123:(List UInt8×List UInt8)→Option (Int) :=
 fun x=>(m122 x.1).bind fun r=>(bif PE.notM (PE.notM r) then m122 x.2 else some false).bind fun r_1=>bif PE.orM (PE.notM r) (PE.notM r_1) then some 0 else
 (m127 x.1).bind fun r_2=>(m127 x.2).bind fun r_3=>bif PE.notM (eqbM r_2.1 r_3.1) then bif r_2.1 then some (-1) else some 1 else bif r_2.1 then (m157
 (r_3.2,r_2.2)).bind fun r=>some r else (m157 (r_2.2,r_3.2)).bind fun r=>some r
theorem c123:SpecOK Tryz.prog 123 ⟨as123,rs123,m123⟩ :=
 fc tabs157OK [] an123 Tryz.f123 fun x=>by kernel_rfl
def tabs123:Tabs:=Tabs.add tabs157 123 ⟨as123,rs123,m123⟩
theorem tabs123OK:TabOK Tryz.prog tabs123:=TabOK.add tabs157OK c123 Tryz.call123

/-! putlog/putlogref03.plus -/
def as159:List Ty:=[tL,tL]
def rs159:List Ty:=[tL]
def an159:Ann:=.seq (.a) (.seq (.a) (.seq (.a) (.seq (.seq (.a) (.block (.loop ⟨[(5,.r (.c (.h 0))),(6,.r (.c (.d (.d tI)))),(7,.r (.c (.d (.d tI))))],(ra 8 45 ([])),[],[.arr tI]⟩ [(.exit 0,⟨[(5,.r (.c (.h 0)))],(ra 6 47 ([])),[],[.arr tI]⟩)] (.seq (.a) (.seq (.block (.seq (.a) (.seq (.join [(.norm,⟨[(8,.r (.c (.d (.d tI))))],(ra 26 10 ([])),[],[]⟩)] (.a)) (.seq (.join [(.norm,⟨[(8,.r (.c (.d (.d tI))))],(ra 36 10 ([])),[],[]⟩)] (.a)) (.a))))) (.a)))))) (.a))))
def m159:(List Int×List Int)→Option (List Int) :=
 fun x=>(loopM (fun (s:Int×Int×List Int)=>bif PE.orM (PE.orM (ltM s.2.1 (lenM x.1)) (ltM s.2.1 (lenM x.2))) (ltM 0 s.1) then (bif ltM s.2.1 (lenM x.1)
 then (idxM x.1 s.2.1).bind fun r=>some (wrap .i64 (s.1+r)) else some s.1).bind fun o=>(bif ltM s.2.1 (lenM x.2) then (idxM x.2 s.2.1).bind fun r
 => some (wrap .i64 (o+r)) else some o).bind fun o_1=>(remM o_1 10).bind fun r=>(appM (nat_lit 8) s.2.2 [r]).bind fun r_1=>(divM .i64 o_1
 10).bind fun r=>some (Sum.inl (r,wrap .i64 (s.2.1+1),r_1)) else some (Sum.inr s.2.2)) (0,0,[])).bind fun o=>some o
theorem c159:SpecOK Tryz.prog 159 ⟨as159,rs159,m159⟩ :=
 fc tabs123OK [] an159 Tryz.f159 fun x=>by kernel_rfl
def tabs159:Tabs:=Tabs.add tabs123 159 ⟨as159,rs159,m159⟩
theorem tabs159OK:TabOK Tryz.prog tabs159:=TabOK.add tabs123OK c159 Tryz.call159

/-! putlog/putlogref03.trim -/
def as161:List Ty:=[tL]
def rs161:List Ty:=[tL]
def an161:Ann:=.seq (.a) (.seq (.block (.loop ⟨[(0,.r (.c (.d (.d tL))))],(ra 3 17 ([])),[],[]⟩ [(.exit 0,⟨[(0,.r (.c (.d (.d tL))))],(ra 3 17 ([])),[],[]⟩)] (.a))) (.a))
def m161:List Int→Option (List Int) :=
 fun x=>(loopM (fun (s:List Int)=>(bif ltM 0 (lenM s) then idxM s (wrap .i64 (lenM s-1)) else some 0).bind fun r=>bif PE.andM (ltM 0 (lenM s))
 (eqM r 0) then (sliceM s 0 (wrap .i64 (lenM s-1))).bind fun r=>some (Sum.inl r) else some (Sum.inr s)) x).bind fun o=>some o
theorem c161:SpecOK Tryz.prog 161 ⟨as161,rs161,m161⟩ :=
 fc tabs159OK [] an161 Tryz.f161 fun x=>by kernel_rfl
def tabs161:Tabs:=Tabs.add tabs159 161 ⟨as161,rs161,m161⟩
theorem tabs161OK:TabOK Tryz.prog tabs161:=TabOK.add tabs159OK c161 Tryz.call161

/-! putlog/putlogref03.minus -/
def as160:List Ty:=[tL,tL]
def rs160:List Ty:=[tL]
def an160:Ann:=.seq (.a) (.seq (.a) (.seq (.a) (.seq (.seq (.a) (.block (.loop ⟨[(5,.r (.c (.h 0))),(6,.r (.c (.d (.d tI)))),(7,.r (.c (.d (.d tI))))],(ra 8 31 ([])),[],[.arr tI]⟩ [(.exit 0,⟨[(5,.r (.c (.h 0)))],(ra 6 33 ([])),[],[.arr tI]⟩)] (.seq (.a) (.seq (.block (.seq (.a) (.seq (.join [(.norm,⟨[(8,.r (.c (.d (.d tI))))],(ra 21 10 ([])),[],[]⟩)] (.a)) (.seq (.a) (.seq (.join [(.norm,⟨[(6,.r (.c (.d (.d tI)))),(8,.r (.c (.d (.d tI))))],[31,32,33,34],[],[]⟩)] (.a)) (.a)))))) (.a)))))) (.a))))
def m160:(List Int×List Int)→Option (List Int) :=
 fun x=>(loopM (fun (s:Int×Int×List Int)=>bif ltM s.2.1 (lenM x.1) then (idxM x.1 s.2.1).bind fun r=>(bif ltM s.2.1 (lenM x.2) then (idxM x.2
 s.2.1).bind fun r_1=>some (wrap .i64 (wrap .i64 (r-s.1)-r_1)) else some (wrap .i64 (r-s.1))).bind fun o=>(bif ltM o 0 then some
 (1,wrap .i64 (o+10)) else some (0,o)).bind fun o_1=>(appM (nat_lit 8) s.2.2 [o_1.2]).bind fun r=>some (Sum.inl (o_1.1,wrap .i64 (s.2.1
 + 1),r)) else some (Sum.inr s.2.2)) (0,0,[])).bind fun o=>(m161 o).bind fun r=>some r
theorem c160:SpecOK Tryz.prog 160 ⟨as160,rs160,m160⟩ :=
 fc tabs161OK [] an160 Tryz.f160 fun x=>by kernel_rfl
def tabs160:Tabs:=Tabs.add tabs161 160 ⟨as160,rs160,m160⟩
theorem tabs160OK:TabOK Tryz.prog tabs160:=TabOK.add tabs161OK c160 Tryz.call160

/-! putlog/putlogref03.checked -/
def as128:List Ty:=[.bool,tL]
def rs128:List Ty:=[.str,tI]
def an128:Ann:=.a
def m128:(Bool×List Int)→Option (List UInt8×Int) :=
 fun x=>(m126 (x.1,x.2)).bind fun r=>bif PE.notM r.2 then some ([],30) else some (r.1,0)
theorem c128:SpecOK Tryz.prog 128 ⟨as128,rs128,m128⟩ :=
 fc tabs160OK [] an128 Tryz.f128 fun x=>by kernel_rfl
def tabs128:Tabs:=Tabs.add tabs160 128 ⟨as128,rs128,m128⟩
theorem tabs128OK:TabOK Tryz.prog tabs128:=TabOK.add tabs160OK c128 Tryz.call128

/-! putlog/putlogref03.sum -/
def as130:List Ty:=[.bool,tL,.bool,tL]
def rs130:List Ty:=[.str,tI]
def an130:Ann:=.seq (.a) (.seq (.a) (.seq (.a) (.seq (.join [(.norm,⟨[(10,.r (.c (.d (.d .bool)))),(11,.r (.c (.d (.d tL))))],(ra 13 17 ([])),[],[]⟩)] (.a)) (.a))))
def m130:(Bool×List Int×Bool×List Int)→Option (List UInt8×Int) :=
 fun x=>(bif eqbM x.1 x.2.2.1 then (m159 (x.2.1,x.2.2.2)).bind fun r=>some (x.1,r) else (m157 (x.2.1,x.2.2.2)).bind fun r=>bif leM 0 r then (m160
 (x.2.1,x.2.2.2)).bind fun r=>some (x.1,r) else (m160 (x.2.2.2,x.2.1)).bind fun r=>some (x.2.2.1,r)).bind fun o=>(m128 (o.1,o.2)).bind fun r=>some
 (r.1,r.2)
theorem c130:SpecOK Tryz.prog 130 ⟨as130,rs130,m130⟩ :=
 fc tabs128OK [] an130 Tryz.f130 fun x=>by kernel_rfl
def tabs130:Tabs:=Tabs.add tabs128 130 ⟨as130,rs130,m130⟩
theorem tabs130OK:TabOK Tryz.prog tabs130:=TabOK.add tabs128OK c130 Tryz.call130

/-! putlog/putlogref03.Sub -/
def as105:List Ty:=[.str,.str]
def rs105:List Ty:=[.str,tI]
def an105:Ann:=.a
def m105:(List UInt8×List UInt8)→Option (List UInt8×Int) :=
 fun x=>(m122 x.1).bind fun r=>(bif PE.notM (PE.notM r) then m122 x.2 else some false).bind fun r_1=>bif PE.orM (PE.notM r) (PE.notM r_1) then some ([],
 30) else (m127 x.1).bind fun r_2=>(m127 x.2).bind fun r_3=>(m130 (r_2.1,r_2.2,PE.notM r_3.1,r_3.2)).bind fun r=>some (r.1,r.2)
theorem c105:SpecOK Tryz.prog 105 ⟨as105,rs105,m105⟩ :=
 fc tabs130OK [] an105 Tryz.f105 fun x=>by kernel_rfl
def tabs105:Tabs:=Tabs.add tabs130 105 ⟨as105,rs105,m105⟩
theorem tabs105OK:TabOK Tryz.prog tabs105:=TabOK.add tabs130OK c105 Tryz.call105

/-! putlog/putlogref03.divided -/
def as158:List Ty:=[tL,tL]
def rs158:List Ty:=[tL,tL]
def an158:Ann:=.seq (.a) (.seq (.a) (.seq (.a) (.seq (.seq (.a) (.block (.loop ⟨[(7,.r (.c (.d (.d tL)))),(8,.r (.c (.d (.d tI))))],(ra 15 25 ([])),[(0,.arr tI)],[]⟩ [(.exit 0,⟨[(7,.r (.c (.d (.d tL))))],(8::ra 15 25 ([])),[(0,.arr tI)],[]⟩)] (.seq (.a) (.seq (.block (.seq (.a) (.block (.loop ⟨[(7,.r (.c (.d (.d tL))))],(ra 27 13 ([])),[(0,.arr tI)],[]⟩ [(.exit 2,⟨[(7,.r (.c (.d (.d tL))))],(ra 27 13 ([])),[(0,.arr tI)],[]⟩)] (.a))))) (.a)))))) (.a))))
def m158:(List Int×List Int)→Option (List Int×List Int) :=
 fun x=>(mkM (lenM x.1) (lenM x.1) (nat_lit 8) 0).bind fun r=>(loopM (fun (s:List Int×Int×List Int)=>bif leM 0 s.2.1 then (idxM x.1 s.2.1).bind fun
 r_1=>(appM (nat_lit 8) [r_1] s.1).bind fun r_2=>(m161 r_2).bind fun r_3=>(loopM (fun (s_1:List Int×List Int)=>(m157 (s_1.1,x.2)).bind fun r_4 =>
 bif leM 0 r_4 then (m160 (s_1.1,x.2)).bind fun r_5=>(chkM s.2.1 (lenM s_1.2)).bind fun r_6=>(idxM s_1.2 s.2.1).bind fun r_7=>(chkM s.2.1 (lenM
 s_1.2)).bind fun r_8=>(setM s_1.2 s.2.1 fun (x:Int)=>some (wrap .i64 (r_7+1))).bind fun r=>some (Sum.inl (r_5,r)) else some (Sum.inr (s_1.1,
 s_1.2))) (r_3,s.2.2)).bind fun o=>some (Sum.inl (o.1,wrap .i64 (s.2.1-1),o.2)) else some (Sum.inr (s.1,s.2.2))) ([],wrap .i64 (lenM x.1
 - 1),r)).bind fun o=>(m161 o.2).bind fun r=>some (r,o.1)
theorem c158:SpecOK Tryz.prog 158 ⟨as158,rs158,m158⟩ :=
 fc tabs105OK [] an158 Tryz.f158 fun x=>by kernel_rfl
def tabs158:Tabs:=Tabs.add tabs105 158 ⟨as158,rs158,m158⟩
theorem tabs158OK:TabOK Tryz.prog tabs158:=TabOK.add tabs105OK c158 Tryz.call158

/-! putlog/putlogref03.Gcd -/
def as124:List Ty:=[.str,.str]
def rs124:List Ty:=[.str,tI]
def an124:Ann:=.seq (.a) (.seq (.a) (.seq (.a) (.seq (.a) (.seq (.block (.loop ⟨[(7,.r (.c (.d (.d tL)))),(9,.r (.c (.d (.d tL))))],(10::11::ra 30 11 ([])),[],[]⟩ [(.exit 0,⟨[(7,.r (.c (.d (.d tL))))],(9::10::11::ra 30 11 ([])),[],[]⟩)] (.a))) (.a)))))
def m124:(List UInt8×List UInt8)→Option (List UInt8×Int) :=
 fun x=>(m122 x.1).bind fun r=>(bif PE.notM (PE.notM r) then m122 x.2 else some false).bind fun r_1=>bif PE.orM (PE.notM r) (PE.notM r_1) then some ([],
 30) else (m127 x.1).bind fun r_2=>(m127 x.2).bind fun r_3=>(loopM (fun (s:List Int×List Int)=>bif ltM 0 (lenM s.2) then (m158 (s.1,s.2)).bind fun r
 => some (Sum.inl (s.2,r.2)) else some (Sum.inr s.1)) (r_2.2,r_3.2)).bind fun o=>(m128 (false,o)).bind fun r=>some (r.1,r.2)
theorem c124:SpecOK Tryz.prog 124 ⟨as124,rs124,m124⟩ :=
 fc tabs158OK [] an124 Tryz.f124 fun x=>by kernel_rfl
def tabs124:Tabs:=Tabs.add tabs158 124 ⟨as124,rs124,m124⟩
theorem tabs124OK:TabOK Tryz.prog tabs124:=TabOK.add tabs158OK c124 Tryz.call124

/-! putlog/putlogref03.Div -/
def as125:List Ty:=[.str,.str]
def rs125:List Ty:=[.str,.str,tI]
def an125:Ann:=.seq (.a) (.seq (.a) (.seq (.a) (.seq (.a) (.seq (.a) (.seq (.join [(.norm,⟨[(11,.r (.c (.d (.d tL)))),(12,.r (.c (.d (.d tL))))],(ra 45 12 ([])),[],[]⟩)] (.a)) (.a))))))
def m125:(List UInt8×List UInt8)→Option (List UInt8×List UInt8×Int) :=
 fun x=>(m122 x.1).bind fun r=>(bif PE.notM (PE.notM r) then m122 x.2 else some false).bind fun r_1=>bif PE.orM (PE.orM (PE.notM r) (PE.notM r_1)) (eqsM
 x.2 [(48:UInt8)]) then some ([],[],30) else (m127 x.1).bind fun r_2=>(m127 x.2).bind fun r_3=>(m158 (r_2.2,r_3.2)).bind fun r_4=>(bif PE.andM r_2.1
 (ltM 0 (lenM r_4.2)) then (m159 (r_4.1,[1])).bind fun r_5=>(m160 (r_3.2,r_4.2)).bind fun r=>some (r_5,r) else some (r_4.1,r_4.2)).bind fun o=>(m128
 (PE.notM (eqbM r_2.1 r_3.1),o.1)).bind fun r_5=>(m126 (false,o.2)).bind fun r=>bif PE.notM (eqM r_5.2 0) then some ([],[],r_5.2) else some (r_5.1,
 r.1,0)
theorem c125:SpecOK Tryz.prog 125 ⟨as125,rs125,m125⟩ :=
 fc tabs124OK [] an125 Tryz.f125 fun x=>by kernel_rfl
def tabs125:Tabs:=Tabs.add tabs124 125 ⟨as125,rs125,m125⟩
theorem tabs125OK:TabOK Tryz.prog tabs125:=TabOK.add tabs124OK c125 Tryz.call125

/-! putlog/putlogref04.Make -/
def as86:List Ty:=[.str,.str]
def rs86:List Ty:=[(.pair .str .str),tI]
def an86:Ann:=.seq (.a) (.seq (.a) (.seq (.a) (.seq (.a) (.seq (.join [(.norm,⟨[(0,.r (.c (.d (.d .str)))),(1,.r (.c (.d (.d .str))))],(ra 31 13 ([])),[],[]⟩)] (.a)) (.a)))))
def m86:(List UInt8×List UInt8)→Option ((List UInt8×List UInt8)×Int) :=
 fun x=>(m122 x.1).bind fun r=>(m122 x.2).bind fun r_1=>bif PE.orM (PE.orM (PE.notM r) (PE.notM r_1)) (eqsM x.2 [(48:UInt8)]) then some (([],[]),40)
 else ((m123 (x.2,[(48:UInt8)])).bind fun r_2=>bif ltM r_2 0 then (m105 ([(48:UInt8)],x.1)).bind fun r_3=>(m105 ([(48:UInt8)],x.2)).bind fun r =>
 some (r_3.1,r.1) else some (x.1,x.2)).bind fun o=>(m124 (o.1,o.2)).bind fun r_2=>(m125 (o.1,r_2.1)).bind fun r_3=>(m125 (o.2,r_2.1)).bind fun r =>
 bif PE.orM (PE.notM (eqM r_3.2.2 0)) (PE.notM (eqM r.2.2 0)) then some (([],[]),40) else some ((r_3.1,r.1),0)
theorem c86:SpecOK Tryz.prog 86 ⟨as86,rs86,m86⟩ :=
 fc tabs125OK [] an86 Tryz.f86 fun x=>by kernel_rfl
def tabs86:Tabs:=Tabs.add tabs125 86 ⟨as86,rs86,m86⟩
theorem tabs86OK:TabOK Tryz.prog tabs86:=TabOK.add tabs125OK c86 Tryz.call86

/-! putlog/putlogref04.Of -/
def as65:List Ty:=[tI,tI]
def rs65:List Ty:=[(.pair .str .str),tI]
def an65:Ann:=.a
def m65:(Int×Int)→Option ((List UInt8×List UInt8)×Int) :=
 fun x=>(m87 x.1).bind fun r=>(m87 x.2).bind fun r_1=>(m86 (r,r_1)).bind fun r=>some ((r.1.1,r.1.2),r.2)
theorem c65:SpecOK Tryz.prog 65 ⟨as65,rs65,m65⟩ :=
 fc tabs86OK [] an65 Tryz.f65 fun x=>by kernel_rfl
def tabs65:Tabs:=Tabs.add tabs86 65 ⟨as65,rs65,m65⟩
theorem tabs65OK:TabOK Tryz.prog tabs65:=TabOK.add tabs86OK c65 Tryz.call65

/-! putlog/putlogref25.node -/
def as88:List Ty:=[(.pair tI (.pair tI (.pair tL tL))),tL,tI,tI]
def rs88:List Ty:=[tB]
def an88:Ann:=.a
def m88:((Int×Int×List Int×List Int)×List Int×Int×Int)→Option (Int×Int×Int) :=
 fun x=>(idxM x.2.1 (wrap .i64 (wrap .i64 (x.2.2.2*wrap .i64 (x.1.1+1))+x.2.2.1))).bind fun r=>some (x.2.2.1,x.2.2.2,r)
theorem c88:SpecOK Tryz.prog 88 ⟨as88,rs88,m88⟩ :=
 fc tabs65OK [] an88 Tryz.f88 fun x=>by kernel_rfl
def tabs88:Tabs:=Tabs.add tabs65 88 ⟨as88,rs88,m88⟩
theorem tabs88OK:TabOK Tryz.prog tabs88:=TabOK.add tabs65OK c88 Tryz.call88

/-! putlog/putlogref25.triangles -/
def as66:List Ty:=[(.pair tI (.pair tI (.pair tL tL))),tL]
def rs66:List Ty:=[(.list (.pair tB (.pair tB tB)))]
def an66:Ann:=.seq (.a) (.seq (.a) (.seq (.seq (.a) (.block (.loop ⟨[(5,.r (.c (.h 1))),(6,.r (.c (.d (.d tI))))],(ra 7 52 ([])),[],[.arr (.pair tB (.pair tB tB))]⟩ [(.exit 0,⟨[(5,.r (.c (.h 1)))],(ra 6 53 ([])),[],[.arr (.pair tB (.pair tB tB))]⟩)] (.seq (.a) (.seq (.block (.seq (.a) (.block (.loop ⟨[(5,.r (.c (.h 2))),(7,.r (.c (.d (.d tI))))],(8::9::10::11::ra 18 41 ([])),[(1,.gone)],[.arr (.pair tB (.pair tB tB))]⟩ [(.exit 2,⟨[(5,.r (.c (.h 2)))],(7::8::9::10::11::ra 18 41 ([])),[(1,.gone)],[.arr (.pair tB (.pair tB tB))]⟩)] (.a))))) (.a)))))) (.a)))
def m66:((Int×Int×List Int×List Int)×List Int)→Option (List ((Int×Int×Int)×(Int×Int×Int)×Int×Int×Int)) :=
 fun x=>(loopM (fun (s:Int×List ((Int×Int×Int)×(Int×Int×Int)×Int×Int×Int))=>bif ltM s.1 x.1.2.1 then (loopM (fun (s_1:Int×List ((Int
 × Int×Int)×(Int×Int×Int)×Int×Int×Int))=>bif ltM s_1.1 x.1.1 then (m88 ((x.1.1,x.1.2.1,x.1.2.2.1,x.1.2.2.2),x.2,s_1.1,s.1)).bind fun r =>
 (m88 ((x.1.1,x.1.2.1,x.1.2.2.1,x.1.2.2.2),x.2,wrap .i64 (s_1.1+1),s.1)).bind fun r_1=>(m88 ((x.1.1,x.1.2.1,x.1.2.2.1,x.1.2.2.2),x.2,wrap
 IntKind.i64 (s_1.1+1),wrap .i64 (s.1+1))).bind fun r_2=>(m88 ((x.1.1,x.1.2.1,x.1.2.2.1,x.1.2.2.2),x.2,s_1.1,wrap .i64 (s.1 +
 1))).bind fun r_3=>(appM (nat_lit 72) s_1.2 [((r.1,r.2.1,r.2.2),(r_1.1,r_1.2.1,r_1.2.2),r_2.1,r_2.2.1,r_2.2.2),((r.1,r.2.1,r.2.2),(r_2.1,
 r_2.2.1,r_2.2.2),r_3.1,r_3.2.1,r_3.2.2)]).bind fun r=>some (Sum.inl (wrap .i64 (s_1.1+1),r)) else some (Sum.inr s_1.2)) (0,s.2)).bind fun o
 => some (Sum.inl (wrap .i64 (s.1+1),o)) else some (Sum.inr s.2)) (0,[])).bind fun o=>some o
theorem c66:SpecOK Tryz.prog 66 ⟨as66,rs66,m66⟩ :=
 fc tabs88OK [] an66 Tryz.f66 fun x=>by kernel_rfl
def tabs66:Tabs:=Tabs.add tabs88 66 ⟨as66,rs66,m66⟩
theorem tabs66OK:TabOK Tryz.prog tabs66:=TabOK.add tabs88OK c66 Tryz.call66

/-! putlog/putlogref25.through -/
def as89:List Ty:=[tI,tI,tI,tI]
def rs89:List Ty:=[tB]
def an89:Ann:=.a
def m89:(Int×Int×Int×Int)→Option (Int×Int×Int) :=
 fun x=>some (wrap .i64 (x.2.1-x.2.2.2),wrap .i64 (x.2.2.1-x.1),wrap .i64 (wrap .i64 (wrap .i64 (x.2.2.2-x.2.1) *
 x.1)-wrap .i64 (wrap .i64 (x.2.2.1-x.1)*x.2.1)))
theorem c89:SpecOK Tryz.prog 89 ⟨as89,rs89,m89⟩ :=
 fc tabs66OK [] an89 Tryz.f89 fun x=>by kernel_rfl
def tabs89:Tabs:=Tabs.add tabs66 89 ⟨as89,rs89,m89⟩
theorem tabs89OK:TabOK Tryz.prog tabs89:=TabOK.add tabs66OK c89 Tryz.call89

/-! putlog/putlogref25.det -/
def as69:List Ty:=[tB,tB,tB]
def rs69:List Ty:=[tI]
def an69:Ann:=.a
def m69:((Int×Int×Int)×(Int×Int×Int)×Int×Int×Int)→Option (Int) :=
 fun x=>some (wrap .i64 (wrap .i64 (wrap .i64 (x.1.1*wrap .i64 (wrap .i64 (x.2.1.2.1*x.2.2.2.2)-wrap IntKind.i64
 (x.2.1.2.2*x.2.2.2.1)))-wrap .i64 (x.1.2.1*wrap .i64 (wrap .i64 (x.2.1.1*x.2.2.2.2)-wrap .i64 (x.2.1.2.2*x.2.2.1)))) +
 wrap .i64 (x.1.2.2*wrap .i64 (wrap .i64 (x.2.1.1*x.2.2.2.1)-wrap .i64 (x.2.1.2.1*x.2.2.1)))))
theorem c69:SpecOK Tryz.prog 69 ⟨as69,rs69,m69⟩ :=
 fc tabs89OK [] an69 Tryz.f69 fun x=>by kernel_rfl
def tabs69:Tabs:=Tabs.add tabs89 69 ⟨as69,rs69,m69⟩
theorem tabs69OK:TabOK Tryz.prog tabs69:=TabOK.add tabs89OK c69 Tryz.call69

/-! putlog/putlogref25.common -/
def as67:List Ty:=[(.pair tB (.pair tB tB)),tQ]
def rs67:List Ty:=[(.list tB)]
def an67:Ann:=.seq (.a) (.seq (.a) (.seq (.seq (.a) (.block (.seq (.a) (.seq (.a) (.seq (.a) (.seq (.a) (.join [] (.a)))))))) (.seq (.seq (.a) (.block (.loop ⟨[(5,.r (.c (.h 13))),(9,.r (.c (.d (.d tI))))],(10::11::ra 51 30 ([])),[(12,.gone)],[.arr tB]⟩ [(.exit 2,⟨[(5,.r (.c (.h 13)))],(9::10::11::ra 51 30 ([])),[(12,.gone)],[.arr tB]⟩)] (.a)))) (.seq (.a) (.seq (.seq (.a) (.block (.loop ⟨[(12,.r (.c (.h 14))),(13,.r (.c (.d (.d tI))))],(ra 14 7 (ra 81 158 ([]))),[],[.arr tB]⟩ [(.exit 4,⟨[(12,.r (.c (.h 14)))],(ra 13 8 (ra 81 158 ([]))),[],[.arr tB]⟩)] (.seq (.a) (.seq (.block (.seq (.a) (.block (.loop ⟨[(12,.r (.c (.h 15))),(14,.r (.c (.d (.d tI))))],(ra 15 6 (ra 89 150 ([]))),[(14,.gone)],[.arr tB]⟩ [(.exit 6,⟨[(12,.r (.c (.h 15)))],(ra 14 7 (ra 89 150 ([]))),[(14,.gone)],[.arr tB]⟩)] (.seq (.a) (.seq (.join [(.norm,⟨[(12,.r (.c (.h 16)))],(ra 15 6 (ra 95 144 ([]))),[(15,.gone)],[.arr tB]⟩)] (.block (.seq (.a) (.seq (.a) (.seq (.a) (.seq (.join [(.norm,⟨[],(ra 137 13 ([])),[(18,.box [.d (.d tI),.d (.d tI),.d (.d tI)])],[]⟩)] (.a)) (.seq (.a) (.seq (.seq (.a) (.block (.loop ⟨[(18,.r (.c (.d (.d .bool)))),(19,.r (.c (.d (.d tI))))],(ra 153 36 ([])),[],[]⟩ [(.exit 8,⟨[(18,.r (.c (.d (.d .bool))))],(19::ra 153 36 ([])),[],[]⟩)] (.seq (.a) (.seq (.block (.reg [0,1,3,3,15,31,63,3,131,511,3,3,3075,7171,15363,3,32771,130051,262143,3,3,1572867,3670019,7864323,3,16777219,66584579,134217727,268435455,536870911,1073741823] (ra 0 31 ([])) (za 4 (.s [13] []::z0::.s [13] []::z0::.s [18] []::za 3 (.s [13] []::z0::.s [13] []::z0::.s [18] []::za 4 (.s [13] []::z0::.s [13] []::z0::.s [18] []::za 5 ([]))))) (.a))) (.a)))))) (.seq (.seq (.a) (.block (.loop ⟨[(18,.r (.c (.d (.d .bool)))),(20,.r (.c (.d (.d tI))))],(ra 189 45 ([])),[],[]⟩ [(.exit 10,⟨[(18,.r (.c (.d (.d .bool))))],(20::ra 189 45 ([])),[],[]⟩)] (.seq (.a) (.seq (.block (.reg [0,1,3,3,15,31,63,3,131,511,3,1027,3,3,12291,28675,61443,130051,262143,524287,1048575,1048575,4194303,8388607,16777215,1048575,34603007,134217727,1048575,269484031,1048575,1048575,3222274047,7517241343,16107175935,34092351487,68719476735,137438953471,274877906943,549755813887] (ra 0 40 ([])) (za 4 (.s [15] []::z0::.s [15] []::z0::.s [18] []::z0::z0::.s [18] []::z0::z0::.s [15] []::z0::.s [15] []::za 5 (.s [15] []::z0::.s [15] []::z0::.s [18] []::z0::z0::.s [18] []::z0::z0::.s [15] []::z0::.s [15] []::za 5 ([])))) (.a))) (.a)))))) (.a)))))))))) (.a))))))) (.a)))))) (.seq (.a) (.seq (.a) (.seq (.block (.loop ⟨[(21,.r (.c (.h 16)))],(22::23::24::25::26::ra 246 76 ([])),[(15,.gone)],[.arr tB]⟩ [(.exit 12,⟨[(21,.r (.c (.h 16)))],(22::23::24::25::26::ra 246 76 ([])),[(15,.gone)],[.arr tB]⟩),(.ret,⟨[(4,.r (.c (.l .nilS)))],(ra 21 6 (ra 246 76 ([]))),[(15,.gone)],[]⟩)] (.seq (.a) (.block (.seq (.a) (.seq (.a) (.seq (.seq (.a) (.block (.loop ⟨[(21,.r (.c (.h 18))),(23,.r (.c (.d (.d .bool)))),(24,.r (.c (.d (.d tI))))],(25::26::ra 257 63 ([])),[(16,.gone)],[.arr tB]⟩ [(.exit 14,⟨[(21,.r (.c (.h 18))),(23,.r (.c (.d (.d .bool))))],(24::25::26::ra 257 63 ([])),[(16,.gone)],[.arr tB]⟩)] (.seq (.a) (.seq (.join [(.norm,⟨[(21,.r (.c (.h 19))),(23,.r (.c (.d (.d .bool))))],(25::26::ra 267 53 ([])),[(18,.gone)],[.arr tB]⟩)] (.block (.seq (.reg [0,0,3,7,0,31,63] (ra 0 7 ([])) [z0,z0,.s [14] [],.s [14] [],.s [17] [],z0,z0] (.a)) (.seq (.seq (.a) (.block (.loop ⟨[(25,.r (.c (.d (.d .bool)))),(26,.r (.c (.d (.d tI))))],(ra 273 39 ([])),[],[]⟩ [(.exit 16,⟨[(25,.r (.c (.d (.d .bool))))],(26::ra 273 39 ([])),[],[]⟩)] (.seq (.a) (.seq (.block (.reg [0,1,3,3,15,31,3,127,255,511,511,2047,4095,511,511,25087,57855,131071,262143,524287,1048575,1048575,1048575,7340031,15728639,1048575,1048575,101711871,235929599,536870911,1073741823,2147483647,4294967295,8589934591] (ra 0 34 ([])) (za 4 (.s [14] []::.s [14] []::.s [17] []::za 4 (.s [14] []::.s [14] []::z0::z0::.s [14] []::.s [14] []::za 3 (.s [17] []::z0::z0::.s [14] []::.s [14] []::z0::z0::.s [14] []::.s [14] []::za 5 ([]))))) (.a))) (.a)))))) (.a))))) (.a)))))) (.a)))))))) (.a)))))))))
noncomputable def leftE (M:List (Int×Int×Int)) (p:(Int×Int×Int)) (b0:Bool):Option Bool:=loopM (fun (s_2:Bool×Int)=>bif ltM s_2.2 (lenM M) then (bif s_2.1 then chkM s_2.2 (lenM M) else some ()).bind fun
 r_10=>(bif s_2.1 then (idxM M s_2.2).bind fun (x:Int×Int×Int)=>some x.1 else some 0).bind fun r_11=>(bif s_2.1 then chkM s_2.2 (lenM M) else some
 ()).bind fun r_12=>(bif s_2.1 then (idxM M s_2.2).bind fun (x:Int×Int×Int)=>some x.2.1 else some 0).bind fun r_13=>(bif s_2.1 then chkM s_2.2
 (lenM M) else some ()).bind fun r_14=>(bif s_2.1 then (idxM M s_2.2).bind fun (x:Int×Int×Int)=>some x.2.2 else some 0).bind fun r=>some (Sum.inl
 (PE.andM s_2.1 (leM 0 (wrap .i64 (wrap .i64 (wrap .i64 (r_11*p.1)+wrap .i64 (r_13*p.2.1))+wrap .i64 (r *
 p.2.2)))),wrap .i64 (s_2.2+1))) else some (Sum.inr s_2.1)) (b0,0)
noncomputable def oldE (V:List (Int×Int×Int)) (p:(Int×Int×Int)) (b0:Bool):Option Bool:=loopM (fun (s_2:Bool×Int)=>bif ltM s_2.2
 (lenM V) then (bif s_2.1 then chkM s_2.2 (lenM V) else some ()).bind fun r_10=>(bif s_2.1 then (idxM V s_2.2).bind fun (x:Int×Int×Int) =>
 some x.1 else some 0).bind fun r_11=>(bif s_2.1 then chkM s_2.2 (lenM V) else some ()).bind fun r_12=>(bif s_2.1 then (idxM V s_2.2).bind fun (x :
 Int×Int×Int)=>some x.2.2 else some 0).bind fun r_13=>(bif PE.andM s_2.1 (PE.notM (PE.notM (eqM (wrap .i64 (r_11*p.2.2)) (wrap IntKind.i64
 (p.1*r_13))))) then chkM s_2.2 (lenM V) else some ()).bind fun r_14=>(bif PE.andM s_2.1 (PE.notM (PE.notM (eqM (wrap .i64 (r_11*p.2.2))
 (wrap .i64 (p.1*r_13))))) then (idxM V s_2.2).bind fun (x:Int×Int×Int)=>some x.2.1 else some 0).bind fun r_15=>(bif PE.andM s_2.1
 (PE.notM (PE.notM (eqM (wrap .i64 (r_11*p.2.2)) (wrap .i64 (p.1*r_13))))) then chkM s_2.2 (lenM V) else some ()).bind fun r_16 =>
 (bif PE.andM s_2.1 (PE.notM (PE.notM (eqM (wrap .i64 (r_11*p.2.2)) (wrap .i64 (p.1*r_13))))) then (idxM V s_2.2).bind fun (x:Int ×
 Int×Int)=>some x.2.2 else some 0).bind fun r=>some (Sum.inl (PE.andM s_2.1 (PE.orM (PE.notM (eqM (wrap .i64 (r_11*p.2.2)) (wrap IntKind.i64
 (p.1*r_13)))) (PE.notM (eqM (wrap .i64 (r_15*p.2.2)) (wrap .i64 (p.2.1*r))))),wrap .i64 (s_2.2+1))) else some (Sum.inr
 s_2.1)) (b0,0)
def m67:(((Int×Int×Int)×(Int×Int×Int)×Int×Int×Int)×List (Int×Int))→Option (List (Int×Int×Int)):=fun x=>(m89 (x.1.1.1,x.1.1.2.1,
 x.1.2.1.1,x.1.2.1.2.1)).bind fun r=>(appM (nat_lit 24) [] [(r.1,r.2.1,r.2.2)]).bind fun r_1=>(m89 (x.1.2.1.1,x.1.2.1.2.1,x.1.2.2.1,
 x.1.2.2.2.1)).bind fun r_2=>(appM (nat_lit 24) r_1 [(r_2.1,r_2.2.1,r_2.2.2)]).bind fun r_3=>(m89 (x.1.2.2.1,x.1.2.2.2.1,x.1.1.1,x.1.1.2.1)).bind fun
 r_4=>(appM (nat_lit 24) r_3 [(r_4.1,r_4.2.1,r_4.2.2)]).bind fun r_5=>(loopM (fun (s:Int×List (Int×Int×Int))=>bif ltM s.1 (lenM x.2) then (idxM
 x.2 s.1).bind fun r_6=>(remM (wrap .i64 (s.1+1)) (lenM x.2)).bind fun r_7=>(idxM x.2 r_7).bind fun r_8=>(m89 (r_6.1,r_6.2,r_8.1,r_8.2)).bind
 fun r_9=>(appM (nat_lit 24) s.2 [(r_9.1,r_9.2.1,r_9.2.2)]).bind fun r=>some (Sum.inl (wrap .i64 (s.1+1),r)) else some (Sum.inr s.2)) (0,
 r_5)).bind fun o=>(loopM (fun (s:Int×List (Int×Int×Int))=>bif ltM s.1 (lenM o) then (loopM (fun (s_1:Int×List (Int×Int×Int))=>bif ltM
 s_1.1 (lenM o) then ((chkM s.1 (lenM o)).bind fun r_6=>(idxM o s.1).bind fun r_7=>(chkM s_1.1 (lenM o)).bind fun r_8=>(idxM o s_1.1).bind fun r_9 =>
 (bif ltM (wrap .i64 (wrap .i64 (r_7.1*r_9.2.1)-wrap .i64 (r_9.1*r_7.2.1))) 0 then some (wrap .i64 (negM (wrap IntKind.i64
 (wrap .i64 (r_7.2.1*r_9.2.2)-wrap .i64 (r_9.2.1*r_7.2.2)))),wrap .i64 (negM (wrap .i64 (wrap .i64 (r_7.2.2*r_9.1)
 - wrap .i64 (r_9.2.2*r_7.1)))),wrap .i64 (negM (wrap .i64 (wrap .i64 (r_7.1*r_9.2.1)-wrap .i64 (r_9.1*r_7.2.1)))))
 else some (wrap .i64 (wrap .i64 (r_7.2.1*r_9.2.2)-wrap .i64 (r_9.2.1*r_7.2.2)),wrap .i64 (wrap .i64 (r_7.2.2 *
 r_9.1)-wrap .i64 (r_9.2.2*r_7.1)),wrap .i64 (wrap .i64 (r_7.1*r_9.2.1)-wrap .i64 (r_9.1*r_7.2.1)))).bind fun o_1 =>
 (leftE o o_1 (ltM 0 o_1.2.2)).bind fun o_2=>(oldE s_1.2 o_1 o_2).bind fun o_3=>bif o_3 then (appM (nat_lit 24) s_1.2 [(o_1.1,o_1.2.1,o_1.2.2)]).bind fun
 r=>some r else some s_1.2).bind fun o=>some (Sum.inl (wrap .i64 (s_1.1+1),o)) else some (Sum.inr s_1.2)) (wrap .i64 (s.1+1),s.2)).bind
 fun o=>some (Sum.inl (wrap .i64 (s.1+1),o)) else some (Sum.inr s.2)) (0,[])).bind fun o_1=>bif ltM (lenM o_1) 3 then some [] else (chkM 0 (lenM
 o_1)).bind fun r_6=>(idxM o_1 0).bind fun r_7=>(loopM (fun (s:List (Int×Int×Int))=>bif ltM (lenM s) (lenM o_1) then (chkM (wrap .i64 (lenM
 s-1)) (lenM s)).bind fun r_8=>(idxM s (wrap .i64 (lenM s-1))).bind fun r_9=>(loopM (fun (s_1:Bool×Int×List (Int×Int×Int))=>bif
 PE.andM (ltM s_1.2.1 (lenM o_1)) (PE.notM s_1.1) then ((chkM s_1.2.1 (lenM o_1)).bind fun r_10=>(idxM o_1 s_1.2.1).bind fun r_11=>(loopM (fun (s_2:Bool
 × Int)=>bif ltM s_2.2 (lenM o_1) then (bif s_2.1 then chkM s_2.2 (lenM o_1) else some ()).bind fun r_12=>(bif s_2.1 then idxM o_1 s_2.2 else some (0,0,
 0)).bind fun r_13=>(bif PE.andM s_2.1 (PE.notM (PE.andM (eqM r_13.1 r_9.1) (PE.andM (eqM r_13.2.1 r_9.2.1) (eqM r_13.2.2 r_9.2.2)))) then chkM s_2.2 (lenM
 o_1) else some ()).bind fun r_14=>(bif PE.andM s_2.1 (PE.notM (PE.andM (eqM r_13.1 r_9.1) (PE.andM (eqM r_13.2.1 r_9.2.1) (eqM r_13.2.2 r_9.2.2)))) then
 idxM o_1 s_2.2 else some (0,0,0)).bind fun r_15=>(bif PE.andM s_2.1 (PE.notM (PE.andM (eqM r_13.1 r_9.1) (PE.andM (eqM r_13.2.1 r_9.2.1) (eqM r_13.2.2
 r_9.2.2)))) then chkM s_1.2.1 (lenM o_1) else some ()).bind fun r_16=>(bif PE.andM s_2.1 (PE.notM (PE.andM (eqM r_13.1 r_9.1) (PE.andM (eqM r_13.2.1
 r_9.2.1) (eqM r_13.2.2 r_9.2.2)))) then idxM o_1 s_1.2.1 else some (0,0,0)).bind fun r_17=>(bif PE.andM s_2.1 (PE.notM (PE.orM (PE.andM (eqM r_13.1 r_9.1)
 (PE.andM (eqM r_13.2.1 r_9.2.1) (eqM r_13.2.2 r_9.2.2))) (PE.andM (eqM r_15.1 r_17.1) (PE.andM (eqM r_15.2.1 r_17.2.1) (eqM r_15.2.2 r_17.2.2))))) then chkM
 s_1.2.1 (lenM o_1) else some ()).bind fun r_18=>(bif PE.andM s_2.1 (PE.notM (PE.orM (PE.andM (eqM r_13.1 r_9.1) (PE.andM (eqM r_13.2.1 r_9.2.1) (eqM
 r_13.2.2 r_9.2.2))) (PE.andM (eqM r_15.1 r_17.1) (PE.andM (eqM r_15.2.1 r_17.2.1) (eqM r_15.2.2 r_17.2.2))))) then idxM o_1 s_1.2.1 else some (0,0,0)).bind
 fun r_19=>(bif PE.andM s_2.1 (PE.notM (PE.orM (PE.andM (eqM r_13.1 r_9.1) (PE.andM (eqM r_13.2.1 r_9.2.1) (eqM r_13.2.2 r_9.2.2))) (PE.andM (eqM r_15.1
 r_17.1) (PE.andM (eqM r_15.2.1 r_17.2.1) (eqM r_15.2.2 r_17.2.2))))) then chkM s_2.2 (lenM o_1) else some ()).bind fun r_20=>(bif PE.andM s_2.1 (PE.notM
 (PE.orM (PE.andM (eqM r_13.1 r_9.1) (PE.andM (eqM r_13.2.1 r_9.2.1) (eqM r_13.2.2 r_9.2.2))) (PE.andM (eqM r_15.1 r_17.1) (PE.andM (eqM r_15.2.1 r_17.2.1)
 (eqM r_15.2.2 r_17.2.2))))) then idxM o_1 s_2.2 else some (0,0,0)).bind fun r_21=>(bif PE.andM s_2.1 (PE.notM (PE.orM (PE.andM (eqM r_13.1 r_9.1) (PE.andM
 (eqM r_13.2.1 r_9.2.1) (eqM r_13.2.2 r_9.2.2))) (PE.andM (eqM r_15.1 r_17.1) (PE.andM (eqM r_15.2.1 r_17.2.1) (eqM r_15.2.2 r_17.2.2))))) then m69 ((r_9.1,
 r_9.2.1,r_9.2.2),(r_19.1,r_19.2.1,r_19.2.2),r_21.1,r_21.2.1,r_21.2.2) else some 0).bind fun r=>some (Sum.inl (PE.andM s_2.1 (PE.orM (PE.orM (PE.andM
 (eqM r_13.1 r_9.1) (PE.andM (eqM r_13.2.1 r_9.2.1) (eqM r_13.2.2 r_9.2.2))) (PE.andM (eqM r_15.1 r_17.1) (PE.andM (eqM r_15.2.1 r_17.2.1) (eqM r_15.2.2
 r_17.2.2)))) (ltM 0 r)),wrap .i64 (s_2.2+1))) else some (Sum.inr s_2.1)) (PE.notM (PE.andM (eqM r_11.1 r_9.1) (PE.andM (eqM r_11.2.1 r_9.2.1) (eqM
 r_11.2.2 r_9.2.2))),0)).bind fun o_2=>bif o_2 then (chkM s_1.2.1 (lenM o_1)).bind fun r_12=>(idxM o_1 s_1.2.1).bind fun r_13=>(appM (nat_lit 24)
 s_1.2.2 [(r_13.1,r_13.2.1,r_13.2.2)]).bind fun r=>some (true,r) else some (s_1.1,s_1.2.2)).bind fun o=>some (Sum.inl (o.1,wrap .i64 (s_1.2.1 +
 1),o.2)) else some (Sum.inr (s_1.1,s_1.2.2))) (false,0,s)).bind fun o=>bif PE.notM o.1 then some (Sum.inr (Sum.inr ())) else some (Sum.inl o.2) else
 some (Sum.inr (Sum.inl s))) [(r_7.1,r_7.2.1,r_7.2.2)]).bind fun o=>Sum.elim (fun (t:List (Int×Int×Int))=>some t) (fun (t:Unit)=>some []) o
theorem c67:SpecOK Tryz.prog 67 ⟨as67,rs67,m67⟩ :=
 fc tabs69OK [49,79,237,245,318] an67 Tryz.f67 fun x=>by kernel_rfl
def tabs67:Tabs:=Tabs.add tabs69 67 ⟨as67,rs67,m67⟩
theorem tabs67OK:TabOK Tryz.prog tabs67:=TabOK.add tabs69OK c67 Tryz.call67
end
end Go.Proofs.YtdgabicjcepmeaaGreatDoor
namespace Go.Proofs.YtdgabicjcepmeaaGreatDoor
open Go Go.Abs Go.PE Go.Proofs
open Go.IntKind (wrap)
set_option maxRecDepth 100000
noncomputable section

/-! putlog/putlogref25.weighted -/
def as68:List Ty:=[(.pair tB (.pair tB tB)),tB]
def rs68:List Ty:=[tI]
def an68:Ann:=.seq (.a) (.seq (.a) (.seq (.seq (.a) (.block (.seq (.seq (.a) (.seq (.block (.seq (.a) (.seq (.a) (.reg [0,0,2,6,14,0,32,0,128,480,0,1024,0,4096,0,16384,61440,130048,262112,0,524288,0,2097152,7864320,0,16777216,0,67108864,0,268435456,1006632960,2130706432,4294443008,8589934560,17179869182,34359738367,68719476735] (ra 0 37 ([])) (z0::z0::.s [0] []::z0::.s [0] []::z0::.s [3] []::z0::.s [2] []::z0::z0::.s [1] []::z0::.s [2] []::z0::.s [1] []::za 4 (.s [3] []::z0::.s [2] []::z0::z0::.s [1] []::z0::.s [2] []::z0::.s [1] []::za 7 ([]))) (.a))))) (.a))) (.seq (.seq (.a) (.seq (.block (.seq (.a) (.seq (.a) (.reg [0,0,2,6,14,0,32,0,128,480,0,1024,0,4096,0,16384,61440,130048,262112,0,524288,0,2097152,7864320,0,16777216,0,67108864,0,268435456,1006632960,2130706432,4294443008,8589934560,17179869182,34359738367,68719476735] (ra 0 37 ([])) (z0::z0::.s [0] []::z0::.s [0] []::z0::.s [5] []::z0::.s [4] []::z0::z0::.s [1] []::z0::.s [4] []::z0::.s [1] []::za 4 (.s [5] []::z0::.s [4] []::z0::z0::.s [1] []::z0::.s [4] []::z0::.s [1] []::za 7 ([]))) (.a))))) (.a))) (.seq (.seq (.a) (.seq (.block (.seq (.a) (.seq (.a) (.reg [0,0,2,6,14,0,32,0,128,480,0,1024,0,4096,0,16384,61440,130048,262112,0,524288,0,2097152,7864320,0,16777216,0,67108864,0,268435456,1006632960,2130706432,4294443008,8589934560,17179869182,34359738367,68719476735] (ra 0 37 ([])) (z0::z0::.s [0] []::z0::.s [0] []::z0::.s [7] []::z0::.s [6] []::z0::z0::.s [1] []::z0::.s [6] []::z0::.s [1] []::za 4 (.s [7] []::z0::.s [6] []::z0::z0::.s [1] []::z0::.s [6] []::z0::.s [1] []::za 7 ([]))) (.a))))) (.a))) (.seq (.a) (.join [] (.a)))))))) (.a)))
def m68:(((Int×Int×Int)×(Int×Int×Int)×Int×Int×Int)×Int×Int×Int)→Option (Int) :=
 fun x=>some (wrap .i64 (wrap .i64 (wrap .i64 (0+wrap .i64 (x.1.1.2.2*wrap .i64 (wrap .i64 (wrap IntKind.i64
 (x.1.2.2.1-x.1.2.1.1)*wrap .i64 (x.2.2.1-wrap .i64 (x.1.2.1.2.1*x.2.2.2)))-wrap .i64 (wrap .i64 (x.1.2.2.2.1 -
 x.1.2.1.2.1)*wrap .i64 (x.2.1-wrap .i64 (x.1.2.1.1*x.2.2.2))))))+wrap .i64 (x.1.2.1.2.2*wrap .i64 (wrap IntKind.i64
 (wrap .i64 (x.1.1.1-x.1.2.2.1)*wrap .i64 (x.2.2.1-wrap .i64 (x.1.2.2.2.1*x.2.2.2)))-wrap .i64 (wrap IntKind.i64
 (x.1.1.2.1-x.1.2.2.2.1)*wrap .i64 (x.2.1-wrap .i64 (x.1.2.2.1*x.2.2.2))))))+wrap .i64 (x.1.2.2.2.2*wrap .i64 (wrap
 IntKind.i64 (wrap .i64 (x.1.2.1.1-x.1.1.1)*wrap .i64 (x.2.2.1-wrap .i64 (x.1.1.2.1*x.2.2.2)))-wrap .i64 (wrap
 IntKind.i64 (x.1.2.1.2.1-x.1.1.2.1)*wrap .i64 (x.2.1-wrap .i64 (x.1.1.1*x.2.2.2)))))))
theorem c68:SpecOK Tryz.prog 68 ⟨as68,rs68,m68⟩ :=
 fc tabs67OK [] an68 Tryz.f68 fun x=>by kernel_rfl
def tabs68:Tabs:=Tabs.add tabs67 68 ⟨as68,rs68,m68⟩
theorem tabs68OK:TabOK Tryz.prog tabs68:=TabOK.add tabs67OK c68 Tryz.call68

/-! putlog/putlogref04.Valid -/
def as90:List Ty:=[(.pair .str .str)]
def rs90:List Ty:=[.bool]
def an90:Ann:=.a
def m90:(List UInt8×List UInt8)→Option (Bool) :=
 fun x=>(m122 x.1).bind fun r=>(m122 x.2).bind fun r_1=>(bif PE.notM (PE.orM (PE.notM r) (PE.notM r_1)) then m123 (x.2,[(48:UInt8)]) else some 0).bind
 fun r_2=>bif PE.orM (PE.orM (PE.notM r) (PE.notM r_1)) (leM r_2 0) then some false else (m124 (x.1,x.2)).bind fun r=>some (PE.andM (eqM r.2 0) (eqsM r.1
 [(49:UInt8)]))
theorem c90:SpecOK Tryz.prog 90 ⟨as90,rs90,m90⟩ :=
 fc tabs68OK [] an90 Tryz.f90 fun x=>by kernel_rfl
def tabs90:Tabs:=Tabs.add tabs68 90 ⟨as90,rs90,m90⟩
theorem tabs90OK:TabOK Tryz.prog tabs90:=TabOK.add tabs68OK c90 Tryz.call90

/-! putlog/putlogref03.times -/
def as129:List Ty:=[tL,tL]
def rs129:List Ty:=[tL]
def an129:Ann:=.seq (.a) (.seq (.a) (.seq (.seq (.a) (.block (.loop ⟨[(6,.r (.c (.d (.d tI))))],(7::8::9::ra 16 48 ([])),[(0,.arr tI)],[]⟩ [(.exit 0,⟨[],(6::7::8::9::ra 16 48 ([])),[(0,.arr tI)],[]⟩)] (.seq (.a) (.seq (.block (.seq (.a) (.seq (.a) (.block (.loop ⟨[(7,.r (.c (.d (.d tI)))),(8,.r (.c (.d (.d tI))))],(9::ra 22 42 ([])),[(0,.arr tI)],[]⟩ [(.exit 2,⟨[],(7::8::9::ra 22 42 ([])),[(0,.arr tI)],[]⟩)] (.seq (.a) (.seq (.block (.seq (.a) (.seq (.join [(.norm,⟨[(9,.r (.c (.d (.d tI))))],(ra 40 15 ([])),[],[]⟩)] (.seq (.a) (.cond (.reg [0,0,0,6,14,0,0,96,224,510,1023,2047] (ra 0 12 ([])) (za 12 ([])) (.a)) (.a)))) (.a)))) (.a)))))))) (.a)))))) (.a)))
def m129:(List Int×List Int)→Option (List Int) :=
 fun x=>(mkM (wrap .i64 (lenM x.1+lenM x.2)) (wrap .i64 (lenM x.1+lenM x.2)) (nat_lit 8) 0).bind fun r=>(loopM (fun (s:Int×List Int) =>
 bif ltM s.1 (lenM x.1) then (loopM (fun (s_1:Int×Int×List Int)=>bif PE.orM (ltM s_1.2.1 (lenM x.2)) (ltM 0 s_1.1) then (chkM (wrap .i64 (s.1 +
 s_1.2.1)) (lenM s_1.2.2)).bind fun r_1=>(idxM s_1.2.2 (wrap .i64 (s.1+s_1.2.1))).bind fun r_2=>(bif ltM s_1.2.1 (lenM x.2) then (idxM x.1
 s.1).bind fun r_3=>(idxM x.2 s_1.2.1).bind fun r=>some (wrap .i64 (wrap .i64 (r_2+s_1.1)+wrap .i64 (r_3*r))) else some (wrap
 IntKind.i64 (r_2+s_1.1))).bind fun o=>(remM o 10).bind fun r_3=>(chkM (wrap .i64 (s.1+s_1.2.1)) (lenM s_1.2.2)).bind fun r_4=>(setM s_1.2.2
 (wrap .i64 (s.1+s_1.2.1)) fun (x:Int)=>some r_3).bind fun r_5=>(divM .i64 o 10).bind fun r=>some (Sum.inl (r,wrap IntKind.i64
 (s_1.2.1+1),r_5)) else some (Sum.inr s_1.2.2)) (0,0,s.2)).bind fun o=>some (Sum.inl (wrap .i64 (s.1+1),o)) else some (Sum.inr s.2)) (0,
 r)).bind fun o=>(m161 o).bind fun r=>some r
theorem c129:SpecOK Tryz.prog 129 ⟨as129,rs129,m129⟩ :=
 fc tabs90OK [] an129 Tryz.f129 fun x=>by kernel_rfl
def tabs129:Tabs:=Tabs.add tabs90 129 ⟨as129,rs129,m129⟩
theorem tabs129OK:TabOK Tryz.prog tabs129:=TabOK.add tabs90OK c129 Tryz.call129

/-! putlog/putlogref03.Mul -/
def as91:List Ty:=[.str,.str]
def rs91:List Ty:=[.str,tI]
def an91:Ann:=.a
def m91:(List UInt8×List UInt8)→Option (List UInt8×Int) :=
 fun x=>(m122 x.1).bind fun r=>(bif PE.notM (PE.notM r) then m122 x.2 else some false).bind fun r_1=>bif PE.orM (PE.notM r) (PE.notM r_1) then some ([],
 30) else (m127 x.1).bind fun r_2=>(m127 x.2).bind fun r_3=>(m129 (r_2.2,r_3.2)).bind fun r_4=>(m128 (PE.notM (eqbM r_2.1 r_3.1),r_4)).bind fun r =>
 some (r.1,r.2)
theorem c91:SpecOK Tryz.prog 91 ⟨as91,rs91,m91⟩ :=
 fc tabs129OK [] an91 Tryz.f91 fun x=>by kernel_rfl
def tabs91:Tabs:=Tabs.add tabs129 91 ⟨as91,rs91,m91⟩
theorem tabs91OK:TabOK Tryz.prog tabs91:=TabOK.add tabs129OK c91 Tryz.call91

/-! putlog/putlogref04.Mul -/
def as70:List Ty:=[(.pair .str .str),(.pair .str .str)]
def rs70:List Ty:=[(.pair .str .str),tI]
def an70:Ann:=.a
def m70:((List UInt8×List UInt8)×List UInt8×List UInt8)→Option ((List UInt8×List UInt8)×Int) :=
 fun x=>(m90 (x.1.1,x.1.2)).bind fun r=>(m90 (x.2.1,x.2.2)).bind fun r_1=>bif PE.orM (PE.notM r) (PE.notM r_1) then some (([],[]),40) else (m91 (x.1.1,
 x.2.1)).bind fun r_2=>(m91 (x.1.2,x.2.2)).bind fun r_3=>bif PE.orM (PE.notM (eqM r_2.2 0)) (PE.notM (eqM r_3.2 0)) then some (([],[]),40) else (m86
 (r_2.1,r_3.1)).bind fun r=>some ((r.1.1,r.1.2),r.2)
theorem c70:SpecOK Tryz.prog 70 ⟨as70,rs70,m70⟩ :=
 fc tabs91OK [] an70 Tryz.f70 fun x=>by kernel_rfl
def tabs70:Tabs:=Tabs.add tabs91 70 ⟨as70,rs70,m70⟩
theorem tabs70OK:TabOK Tryz.prog tabs70:=TabOK.add tabs91OK c70 Tryz.call70

/-! putlog/putlogref04.cross -/
def as92:List Ty:=[(.pair .str .str),(.pair .str .str)]
def rs92:List Ty:=[.str,.str,.str,.bool]
def an92:Ann:=.a
def m92:((List UInt8×List UInt8)×List UInt8×List UInt8)→Option (List UInt8×List UInt8×List UInt8×Bool) :=
 fun x=>(m90 (x.1.1,x.1.2)).bind fun r=>(m90 (x.2.1,x.2.2)).bind fun r_1=>bif PE.orM (PE.notM r) (PE.notM r_1) then some ([],[],[],false) else (m91
 (x.1.1,x.2.2)).bind fun r_2=>(m91 (x.2.1,x.1.2)).bind fun r_3=>(m91 (x.1.2,x.2.2)).bind fun r=>some (r_2.1,r_3.1,r.1,PE.andM (PE.andM (eqM r_2.2
 0) (eqM r_3.2 0)) (eqM r.2 0))
theorem c92:SpecOK Tryz.prog 92 ⟨as92,rs92,m92⟩ :=
 fc tabs70OK [] an92 Tryz.f92 fun x=>by kernel_rfl
def tabs92:Tabs:=Tabs.add tabs70 92 ⟨as92,rs92,m92⟩
theorem tabs92OK:TabOK Tryz.prog tabs92:=TabOK.add tabs70OK c92 Tryz.call92

/-! putlog/putlogref03.Add -/
def as93:List Ty:=[.str,.str]
def rs93:List Ty:=[.str,tI]
def an93:Ann:=.a
def m93:(List UInt8×List UInt8)→Option (List UInt8×Int) :=
 fun x=>(m122 x.1).bind fun r=>(bif PE.notM (PE.notM r) then m122 x.2 else some false).bind fun r_1=>bif PE.orM (PE.notM r) (PE.notM r_1) then some ([],
 30) else (m127 x.1).bind fun r_2=>(m127 x.2).bind fun r_3=>(m130 (r_2.1,r_2.2,r_3.1,r_3.2)).bind fun r=>some (r.1,r.2)
theorem c93:SpecOK Tryz.prog 93 ⟨as93,rs93,m93⟩ :=
 fc tabs92OK [] an93 Tryz.f93 fun x=>by kernel_rfl
def tabs93:Tabs:=Tabs.add tabs92 93 ⟨as93,rs93,m93⟩
theorem tabs93OK:TabOK Tryz.prog tabs93:=TabOK.add tabs92OK c93 Tryz.call93

/-! putlog/putlogref04.Add -/
def as71:List Ty:=[(.pair .str .str),(.pair .str .str)]
def rs71:List Ty:=[(.pair .str .str),tI]
def an71:Ann:=.a
def m71:((List UInt8×List UInt8)×List UInt8×List UInt8)→Option ((List UInt8×List UInt8)×Int) :=
 fun x=>(m92 ((x.1.1,x.1.2),x.2.1,x.2.2)).bind fun r=>bif PE.notM r.2.2.2 then some (([],[]),40) else (m93 (r.1,r.2.1)).bind fun r_1=>bif PE.notM
 (eqM r_1.2 0) then some (([],[]),40) else (m86 (r_1.1,r.2.2.1)).bind fun r=>some ((r.1.1,r.1.2),r.2)
theorem c71:SpecOK Tryz.prog 71 ⟨as71,rs71,m71⟩ :=
 fc tabs93OK [] an71 Tryz.f71 fun x=>by kernel_rfl
def tabs71:Tabs:=Tabs.add tabs93 71 ⟨as71,rs71,m71⟩
theorem tabs71OK:TabOK Tryz.prog tabs71:=TabOK.add tabs93OK c71 Tryz.call71

/-! putlog/putlogref25.over -/
def as37:List Ty:=[(.pair tI (.pair tI (.pair tL tL))),tL,tQ]
def rs37:List Ty:=[(.pair .str .str)]
def an37:Ann:=.seq (.a) (.seq (.a) (.seq (.a) (.seq (.seq (.a) (.block (.loop ⟨[(10,.r (.c (.d (.d tI))))],(ra 11 13 (ra 31 101 ([]))),[(2,.box [.d (.d .str),.d (.d .str)])],[]⟩ [(.exit 0,⟨[],(ra 10 14 (ra 31 101 ([]))),[(2,.box [.d (.d .str),.d (.d .str)])],[]⟩)] (.seq (.a) (.seq (.block (.seq (.a) (.seq (.a) (.seq (.a) (.block (.loop ⟨[(13,.r (.c (.d (.d tI))))],(ra 14 10 (ra 44 88 ([]))),[(2,.box [.d (.d .str),.d (.d .str)])],[]⟩ [(.exit 2,⟨[],(ra 13 11 (ra 44 88 ([]))),[(2,.box [.d (.d .str),.d (.d .str)])],[]⟩)] (.seq (.a) (.seq (.block (.seq (.reg [0,1,3,0,0,24,56,0,0,256,896,1920,4095,8191] (ra 0 14 ([])) (za 14 ([])) (.a)) (.seq (.reg [0,1,3,7,0,16,48,112,255,0,512,1536,3584,8191,16383] (ra 0 15 ([])) (za 15 ([])) (.a)) (.seq (.a) (.seq (.seq (.a) (.block (.loop ⟨[(16,.r (.c (.d (.d tI)))),(17,.r (.c (.d (.d tI))))],(ra 78 20 ([])),[],[]⟩ [(.exit 4,⟨[(16,.r (.c (.d (.d tI))))],(17::ra 78 20 ([])),[],[]⟩)] (.seq (.a) (.seq (.block (.reg [0,0,0,0,12,28,62,0,254,0,0,1536,3584,7680,16382,32767,65535] (ra 0 17 ([])) (z0::.s [3] []::za 15 ([])) (.a))) (.a)))))) (.seq (.reg [0,1,3,0,8,24,0,64,192,511,0,2047,4095,8191,8191,0,49151,131071] (ra 0 18 ([])) (za 15 (.s [] [4]::.s [4] [4]::z0::[])) (.a)) (.a))))))) (.a))))))))) (.a)))))) (.a))))
noncomputable def rfanE (O:List (Int×Int×Int)) (ax ay va bx by_ vb cx cy vc:Int) (s:List UInt8×List UInt8):Option (List UInt8×List UInt8):=(loopM (fun (s_1:Int×List UInt8×List UInt8)=>bif ltM (wrap .i64 (s_1.1+1)) (lenM O) then (idxM O 0).bind fun r_4=>(idxM O s_1.1).bind fun r_5=>(idxM
 O (wrap .i64 (s_1.1+1))).bind fun r_6=>(idxM [(r_4.1,r_4.2.1,r_4.2.2),(r_5.1,r_5.2.1,r_5.2.2),(r_6.1,r_6.2.1,r_6.2.2)] 0).bind fun r_7=>(idxM
 [(r_4.1,r_4.2.1,r_4.2.2),(r_5.1,r_5.2.1,r_5.2.2),(r_6.1,r_6.2.1,r_6.2.2)] 1).bind fun r_8=>(idxM [(r_4.1,r_4.2.1,r_4.2.2),(r_5.1,r_5.2.1,r_5.2.2),
 (r_6.1,r_6.2.1,r_6.2.2)] 2).bind fun r_9=>(loopM (fun (s_2:Int×Int)=>bif ltM s_2.2 3 then (idxM [(r_4.1,r_4.2.1,r_4.2.2),(r_5.1,r_5.2.1,r_5.2.2),(r_6.1,
 r_6.2.1,r_6.2.2)] s_2.2).bind fun r_10=>(m68 (((ax,ay,va),(bx,by_,vb),cx,cy,vc),r_10.1,r_10.2.1,r_10.2.2)).bind fun r_11=>(idxM
 [(r_4.1,r_4.2.1,r_4.2.2),(r_5.1,r_5.2.1,r_5.2.2),(r_6.1,r_6.2.1,r_6.2.2)] s_2.2).bind fun r_12=>(divM .i64 (wrap .i64 (r_11*wrap IntKind.i64
 (wrap .i64 (r_7.2.2*r_8.2.2)*r_9.2.2))) r_12.2.2).bind fun r=>some (Sum.inl (wrap .i64 (s_2.1+r),wrap .i64 (s_2.2+1))) else some
 (Sum.inr s_2.1)) (0,0)).bind fun o=>(idxM [(r_4.1,r_4.2.1,r_4.2.2),(r_5.1,r_5.2.1,r_5.2.2),(r_6.1,r_6.2.1,r_6.2.2)] 0).bind fun r_10=>(idxM [(r_4.1,
 r_4.2.1,r_4.2.2),(r_5.1,r_5.2.1,r_5.2.2),(r_6.1,r_6.2.1,r_6.2.2)] 1).bind fun r_11=>(idxM [(r_4.1,r_4.2.1,r_4.2.2),(r_5.1,r_5.2.1,r_5.2.2),(r_6.1,
 r_6.2.1,r_6.2.2)] 2).bind fun r_12=>(m69 ((r_10.1,r_10.2.1,r_10.2.2),(r_11.1,r_11.2.1,r_11.2.2),r_12.1,r_12.2.1,r_12.2.2)).bind fun r_13 =>
 (m65 (r_13,wrap .i64 (wrap .i64 (r_7.2.2*r_8.2.2)*r_9.2.2))).bind fun r_14=>(m65 (o,wrap .i64 (6*wrap
 IntKind.i64 (wrap .i64 (r_7.2.2*r_8.2.2)*r_9.2.2)))).bind fun r_15=>(m70 ((r_14.1.1,r_14.1.2),r_15.1.1,r_15.1.2)).bind fun r_16 =>
 (m71 ((s_1.2.1,s_1.2.2),r_16.1.1,r_16.1.2)).bind fun r=>some (Sum.inl (wrap .i64 (s_1.1+1),r.1.1,r.1.2)) else some (Sum.inr (s_1.2.1,
 s_1.2.2))) (1,s.1,s.2))
def m37:((Int×Int×List Int×List Int)×List Int×List (Int×Int))→Option (List UInt8×List UInt8):=fun x=>(m65 (0,1)).bind fun r=>(m66
 ((x.1.1,x.1.2.1,x.1.2.2.1,x.1.2.2.2),x.2.1)).bind fun r_1=>(loopM (fun (s:Int×List UInt8×List UInt8)=>bif ltM s.1 (lenM r_1) then (idxM r_1
 s.1).bind fun r_2=>(m67 (((r_2.1.1,r_2.1.2.1,r_2.1.2.2),(r_2.2.1.1,r_2.2.1.2.1,r_2.2.1.2.2),r_2.2.2.1,r_2.2.2.2.1,r_2.2.2.2.2),x.2.2)).bind fun r_3
 => (rfanE r_3 r_2.1.1 r_2.1.2.1 r_2.1.2.2 r_2.2.1.1 r_2.2.1.2.1 r_2.2.1.2.2 r_2.2.2.1 r_2.2.2.2.1 r_2.2.2.2.2 (s.2.1,s.2.2)).bind fun o=>some (Sum.inl
 (wrap .i64 (s.1+1),o.1,o.2)) else some (Sum.inr (s.2.1,s.2.2))) (0,r.1.1,r.1.2)).bind fun o=>some (o.1,o.2)
theorem c37:SpecOK Tryz.prog 37 ⟨as37,rs37,m37⟩ :=
 fc tabs71OK [] an37 Tryz.f37 fun x=>by kernel_rfl
def tabs37:Tabs:=Tabs.add tabs71 37 ⟨as37,rs37,m37⟩
theorem tabs37OK:TabOK Tryz.prog tabs37:=TabOK.add tabs71OK c37 Tryz.call37

/-! putlog/putlogref25.Over -/
def as9:List Ty:=[(.pair tI (.pair tI (.pair tL tL))),tQ]
def rs9:List Ty:=[(.pair .str .str),(.pair .str .str),tI]
def an9:Ann:=.seq (.a) (.seq (.a) (.seq (.seq (.a) (.block (.loop ⟨[(7,.r (.c (.d (.d tI))))],(ra 18 24 ([])),[],[]⟩ [(.exit 0,⟨[],(7::ra 18 24 ([])),[],[]⟩),(.ret,⟨[(6,.r (.c (.d (.d tI))))],(7::ra 18 26 ([])),[(1,.box [.d (.d .str),.d (.d .str)]),(2,.box [.d (.d .str),.d (.d .str)])],[]⟩)] (.seq (.a) (.seq (.block (.seq (.reg [0,0,3,7,15,0,32,127,255,511,511,2047,4095,8191,511,16895,65535,131071] (ra 0 18 ([])) (za 6 (.s [0] []::za 8 (.s [0] []::z0::z0::[]))) (.a)) (.a))) (.a)))))) (.seq (.reg [0,0,2,0,15,0,0,64,0,511,1023,2047,4095] (ra 0 13 ([])) [.s [0] [],z0,.s [0] [],z0,z0,.s [0] [],z0,.s [0] [],z0,z0,.s [1] [1],.s [2] [2],z0] (.a)) (.a))))
def m9:((Int×Int×List Int×List Int)×List (Int×Int))→Option ((List UInt8×List UInt8)×(List UInt8×List UInt8)×Int) :=
 fun x=>(m35 (x.1.1,x.1.2.1,x.1.2.2.1,x.1.2.2.2)).bind fun r=>(bif PE.notM (PE.notM r) then m36 x.2 else some false).bind fun r_1=>bif PE.orM (PE.notM
 r) (PE.notM r_1) then some (([],[]),([],[]),250) else (loopM (fun (s:Int)=>bif ltM s (lenM x.2) then (idxM x.2 s).bind fun r_2=>(bif PE.notM (ltM
 x.1.1 r_2.1) then idxM x.2 s else some (0,0)).bind fun r=>bif PE.orM (ltM x.1.1 r_2.1) (ltM x.1.2.1 r.2) then some (Sum.inr (Sum.inr (250,[],[],[],
 []))) else some (Sum.inl (wrap .i64 (s+1))) else some (Sum.inr (Sum.inl ()))) 0).bind fun o=>Sum.elim (fun (t:Unit)=>(m37 ((x.1.1,x.1.2.1,
 x.1.2.2.1,x.1.2.2.2),x.1.2.2.1,x.2)).bind fun r_2=>(m37 ((x.1.1,x.1.2.1,x.1.2.2.1,x.1.2.2.2),x.1.2.2.2,x.2)).bind fun r=>some ((r_2.1,r_2.2),
 (r.1,r.2),0)) (fun (t:Int×List UInt8×List UInt8×List UInt8×List UInt8)=>some ((t.2.1,t.2.2.1),(t.2.2.2.1,t.2.2.2.2),t.1)) o
theorem c9:SpecOK Tryz.prog 9 ⟨as9,rs9,m9⟩ :=
 fc tabs37OK [] an9 Tryz.f9 fun x=>by kernel_rfl
def tabs9:Tabs:=Tabs.add tabs37 9 ⟨as9,rs9,m9⟩
theorem tabs9OK:TabOK Tryz.prog tabs9:=TabOK.add tabs37OK c9 Tryz.call9

/-! putlog/putloglaw25.pick -/
def as10:List Ty:=[tI,tI]
def rs10:List Ty:=[tI]
def an10:Ann:=.seq (.a) (.seq (.join [(.norm,⟨[(0,.r (.c (.d (.d tI))))],[5,6,7,8,9],[],[]⟩)] (.a)) (.a))
def m10:(Int×Int)→Option (Int) :=
 fun x=>(bif ltM x.1 0 then some (wrap .i64 (negM (wrap .i64 (x.1+1)))) else some x.1).bind fun o=>(remM o x.2).bind fun r=>some r
theorem c10:SpecOK Tryz.prog 10 ⟨as10,rs10,m10⟩ :=
 fc tabs9OK [] an10 Tryz.f10 fun x=>by kernel_rfl
def tabs10:Tabs:=Tabs.add tabs9 10 ⟨as10,rs10,m10⟩
theorem tabs10OK:TabOK Tryz.prog tabs10:=TabOK.add tabs9OK c10 Tryz.call10

/-! putlog/putlogref04.Sub -/
def as74:List Ty:=[(.pair .str .str),(.pair .str .str)]
def rs74:List Ty:=[(.pair .str .str),tI]
def an74:Ann:=.a
def m74:((List UInt8×List UInt8)×List UInt8×List UInt8)→Option ((List UInt8×List UInt8)×Int) :=
 fun x=>(m92 ((x.1.1,x.1.2),x.2.1,x.2.2)).bind fun r=>bif PE.notM r.2.2.2 then some (([],[]),40) else (m105 (r.1,r.2.1)).bind fun r_1=>bif PE.notM
 (eqM r_1.2 0) then some (([],[]),40) else (m86 (r_1.1,r.2.2.1)).bind fun r=>some ((r.1.1,r.1.2),r.2)
theorem c74:SpecOK Tryz.prog 74 ⟨as74,rs74,m74⟩ :=
 fc tabs10OK [] an74 Tryz.f74 fun x=>by kernel_rfl
def tabs74:Tabs:=Tabs.add tabs10 74 ⟨as74,rs74,m74⟩
theorem tabs74OK:TabOK Tryz.prog tabs74:=TabOK.add tabs10OK c74 Tryz.call74

/-! putlog/putlogref25.above -/
def as42:List Ty:=[(.pair tI (.pair tI (.pair tL tL))),tL,tI]
def rs42:List Ty:=[(.pair .str .str)]
def an42:Ann:=.seq (.a) (.seq (.a) (.seq (.a) (.seq (.seq (.a) (.block (.loop ⟨[(10,.r (.c (.d (.d tI))))],(ra 11 9 (ra 27 160 ([]))),[(2,.box [.d (.d .str),.d (.d .str)])],[]⟩ [(.exit 0,⟨[],(ra 10 10 (ra 27 160 ([]))),[(2,.box [.d (.d .str),.d (.d .str)])],[]⟩)] (.seq (.a) (.seq (.block (.seq (.reg [0,0,3,7,15,31,0,0,192,448,960,1984,0,0,12288,28672,61440,126976,262143,524287] (ra 0 20 ([])) (za 18 (.s [] [3]::z0::[])) (.a)) (.seq (.seq (.a) (.block (.loop ⟨[(12,.r (.c (.d (.d tI))))],(13::ra 52 34 ([])),[(3,.arr tI)],[]⟩ [(.exit 2,⟨[],(12::13::ra 52 34 ([])),[(3,.arr tI)],[]⟩)] (.seq (.a) (.seq (.block (.seq (.a) (.block (.loop ⟨[(13,.r (.c (.d (.d tI))))],(ra 56 30 ([])),[(3,.arr tI)],[]⟩ [(.exit 4,⟨[],(13::ra 56 30 ([])),[(3,.arr tI)],[]⟩)] (.seq (.a) (.seq (.join [(.norm,⟨[],(ra 60 26 ([])),[(3,.arr tI)],[]⟩)] (.block (.seq (.reg [0,0,3,7,0,0,32,112,240,511] (ra 0 10 ([])) (z0::z0::.s [3] []::.s [3] []::za 3 (.s [3] []::.s [3] []::z0::[])) (.a)) (.cond (.reg [0,0,0,0,8,0,0,64,224,480,0,0,3072,7168,16355,32739,65535,131071] (ra 0 18 ([])) (za 8 (.s [3] []::.s [3] []::z0::z0::.s [3] []::.s [3] []::.s [3] []::.s [3] [3]::.s [3] []::.s [3] [3]::[])) (.a)) (.a))))) (.a))))))) (.a)))))) (.seq (.a) (.seq (.a) (.seq (.join [(.norm,⟨[],(18::19::ra 94 87 ([])),[(4,.box [.d (.d .str),.d (.d .str)])],[]⟩)] (.block (.seq (.a) (.cond (.a) (.seq (.a) (.cond (.seq (.reg [0,0,2,6,15,0,0,64,192,480,1023,0,2048,6144,0,16384,49152,129024,260096,0,524288,1572864,0,4194304,12582912,33030144,67106816,134217727,268435455,536870911,536870911,0,3221225471,8589934591] (ra 0 34 ([])) (z0::z0::.s [3] []::.s [3] []::za 3 (.s [3] []::.s [3] []::za 3 (.s [3] []::.s [3] []::z0::.s [3] []::.s [3] []::za 3 (.s [3] []::.s [3] []::z0::.s [3] []::.s [3] []::za 6 (.s [] [6]::.s [6] [6]::z0::[]))))) (.a)) (.a)) (.seq (.a) (.cond (.reg [0,1,3,0,15,0,32,96,0,480,1023,0,2048,6144,0,16384,49152,129024,260096,0,524288,1572864,0,4194304,12582912,33030144,67106816,134217727,268435455,536870911,536870911,1073741823] (ra 0 32 ([])) (z0::.s [3] []::.s [3] []::za 3 (.s [3] []::.s [3] []::za 4 (.s [3] []::.s [3] []::z0::.s [3] []::.s [3] []::za 3 (.s [3] []::.s [3] []::z0::.s [3] []::.s [3] []::za 6 (.s [4] [4]::[]))))) (.a)) (.a))))))))) (.a))))))) (.a)))))) (.a))))
def m42:((Int×Int×List Int×List Int)×List Int×Int)→Option (List UInt8×List UInt8) :=
 fun x=>(m65 (0,1)).bind fun r=>(m66 ((x.1.1,x.1.2.1,x.1.2.2.1,x.1.2.2.2),x.2.1)).bind fun r_1=>(loopM (fun (s:Int×List UInt8×List UInt8)=>bif
 ltM s.1 (lenM r_1) then (idxM r_1 s.1).bind fun r_2=>(idxM r_1 s.1).bind fun r_3=>(idxM r_1 s.1).bind fun r_4=>(loopM (fun (s_1:Int×List Int)=>bif
 ltM s_1.1 2 then (loopM (fun (s_2:Int×List Int)=>bif ltM s_2.1 2 then ((chkM s_2.1 (lenM s_2.2)).bind fun r_5=>(idxM s_2.2 s_2.1).bind fun r_6 =>
 (chkM (wrap .i64 (s_2.1+1)) (lenM s_2.2)).bind fun r_7=>(idxM s_2.2 (wrap .i64 (s_2.1+1))).bind fun r_8=>bif ltM r_6 r_8 then (chkM
 (wrap .i64 (s_2.1+1)) (lenM s_2.2)).bind fun r_9=>(idxM s_2.2 (wrap .i64 (s_2.1+1))).bind fun r_10=>(chkM s_2.1 (lenM s_2.2)).bind fun
 r_11=>(idxM s_2.2 s_2.1).bind fun r_12=>(chkM s_2.1 (lenM s_2.2)).bind fun r_13=>(setM s_2.2 s_2.1 fun (x:Int)=>some r_10).bind fun r_14=>(chkM
 (wrap .i64 (s_2.1+1)) (lenM r_14)).bind fun r_15=>(setM r_14 (wrap .i64 (s_2.1+1)) fun (x:Int)=>some r_12).bind fun r=>some r else
 some s_2.2).bind fun o=>some (Sum.inl (wrap .i64 (s_2.1+1),o)) else some (Sum.inr s_2.2)) (0,s_1.2)).bind fun o=>some (Sum.inl (wrap
 IntKind.i64 (s_1.1+1),o)) else some (Sum.inr s_1.2)) (0,[r_2.1.2.2,r_3.2.1.2.2,r_4.2.2.2.2])).bind fun o=>(m65 (0,1)).bind fun r_5=>(m65 (1,
 2)).bind fun r_6=>((chkM 2 (lenM o)).bind fun r_7=>(idxM o 2).bind fun r_8=>bif ltM x.2.2 r_8 then some (r_6.1.1,r_6.1.2) else (chkM 1 (lenM o)).bind
 fun r_9=>(idxM o 1).bind fun r_10=>bif ltM x.2.2 r_10 then (chkM 2 (lenM o)).bind fun r_11=>(idxM o 2).bind fun r_12=>(chkM 2 (lenM o)).bind fun r_13
 => (idxM o 2).bind fun r_14=>(chkM 0 (lenM o)).bind fun r_15=>(idxM o 0).bind fun r_16=>(chkM 2 (lenM o)).bind fun r_17=>(idxM o 2).bind fun r_18 =>
 (chkM 1 (lenM o)).bind fun r_19=>(idxM o 1).bind fun r_20=>(chkM 2 (lenM o)).bind fun r_21=>(idxM o 2).bind fun r_22=>(m65 (wrap .i64 (wrap
 IntKind.i64 (x.2.2-r_12)*wrap .i64 (x.2.2-r_14)),wrap .i64 (wrap .i64 (2*wrap .i64 (r_16-r_18))*wrap IntKind.i64
 (r_20-r_22)))).bind fun r_23=>(m74 ((r_6.1.1,r_6.1.2),r_23.1.1,r_23.1.2)).bind fun r=>some (r.1.1,r.1.2) else (chkM 0 (lenM o)).bind fun r_11 =>
 (idxM o 0).bind fun r_12=>bif ltM x.2.2 r_12 then (chkM 0 (lenM o)).bind fun r_13=>(idxM o 0).bind fun r_14=>(chkM 0 (lenM o)).bind fun r_15=>(idxM o
 0).bind fun r_16=>(chkM 0 (lenM o)).bind fun r_17=>(idxM o 0).bind fun r_18=>(chkM 1 (lenM o)).bind fun r_19=>(idxM o 1).bind fun r_20=>(chkM 0
 (lenM o)).bind fun r_21=>(idxM o 0).bind fun r_22=>(chkM 2 (lenM o)).bind fun r_23=>(idxM o 2).bind fun r_24=>(m65 (wrap .i64 (wrap IntKind.i64
 (r_14-x.2.2)*wrap .i64 (r_16-x.2.2)),wrap .i64 (wrap .i64 (2*wrap .i64 (r_18-r_20))*wrap .i64 (r_22 -
 r_24)))).bind fun r=>some (r.1.1,r.1.2) else some (r_5.1.1,r_5.1.2)).bind fun o_1=>(m71 ((s.2.1,s.2.2),o_1.1,o_1.2)).bind fun r=>some (Sum.inl
 (wrap .i64 (s.1+1),r.1.1,r.1.2)) else some (Sum.inr (s.2.1,s.2.2))) (0,r.1.1,r.1.2)).bind fun o=>some (o.1,o.2)
theorem c42:SpecOK Tryz.prog 42 ⟨as42,rs42,m42⟩ :=
 fc tabs74OK [51] an42 Tryz.f42 fun x=>by kernel_rfl
def tabs42:Tabs:=Tabs.add tabs74 42 ⟨as42,rs42,m42⟩
theorem tabs42OK:TabOK Tryz.prog tabs42:=TabOK.add tabs74OK c42 Tryz.call42

/-! putlog/putlogref25.Above -/
def as12:List Ty:=[(.pair tI (.pair tI (.pair tL tL))),tI]
def rs12:List Ty:=[(.pair .str .str),(.pair .str .str),tI]
def an12:Ann:=.seq (.a) (.seq (.a) (.seq (.reg [0,0,2,0,15,0,0,64,0,511,1023,2047,4095] (ra 0 13 ([])) [.s [0] [],z0,.s [0] [],z0,z0,.s [0] [],z0,.s [0] [],z0,z0,.s [1] [1],.s [2] [2],z0] (.a)) (.a)))
def m12:((Int×Int×List Int×List Int)×Int)→Option ((List UInt8×List UInt8)×(List UInt8×List UInt8)×Int) :=
 fun x=>(m35 (x.1.1,x.1.2.1,x.1.2.2.1,x.1.2.2.2)).bind fun r=>bif PE.orM (PE.orM (PE.notM r) (ltM x.2 0)) (ltM 100 x.2) then some (([],[]),([],[]),
 250) else (m42 ((x.1.1,x.1.2.1,x.1.2.2.1,x.1.2.2.2),x.1.2.2.1,x.2)).bind fun r_1=>(m42 ((x.1.1,x.1.2.1,x.1.2.2.1,x.1.2.2.2),x.1.2.2.2,x.2)).bind
 fun r=>some ((r_1.1,r_1.2),(r.1,r.2),0)
theorem c12:SpecOK Tryz.prog 12 ⟨as12,rs12,m12⟩ :=
 fc tabs42OK [] an12 Tryz.f12 fun x=>by kernel_rfl
def tabs12:Tabs:=Tabs.add tabs42 12 ⟨as12,rs12,m12⟩
theorem tabs12OK:TabOK Tryz.prog tabs12:=TabOK.add tabs42OK c12 Tryz.call12

/-! putlog/putloglaw25.FieldPartsMatchReference -/
def as3:List Ty:=[(.pair tI tB),tQ,tB,(.pair tI (.pair tI (.pair tL tL))),tQ,tQ,tI]
def rs3:List Ty:=[.bool]
def an3:Ann:=.seq (.a) (.seq (.a) (.seq (.a) (.seq (.a) (.seq (.reg [0,1,0,4,0,16,0,64,192,448,1008,0,2048,0,8192,24576,57344,129024,262143,0,1048575] (ra 0 21 ([])) (z0::.s [2] []::z0::.s [2] []::z0::.s [2] []::z0::.s [2] []::za 4 (.s [2] []::z0::.s [2] []::za 4 (.s [] [4]::.s [4] [4]::[]))) (.a)) (.seq (.a) (.seq (.seq (.reg [0,0,0,4,0,16,0,64,254,0,1023,2047,0] (ra 0 13 ([])) (.s [3] []::.s [3] []::z0::.s [1] []::z0::.s [1] []::z0::.s [1] []::z0::.s [4] []::za 3 ([])) (.a)) (.block (.loop ⟨[(81,.r (.c (.d (.d tI))))],(19::ra 21 7 (ra 29 7 (ra 82 79 ([])))),[],[]⟩ [(.exit 0,⟨[],(19::ra 21 7 (ra 29 7 (ra 81 80 ([])))),[],[]⟩),(.ret,⟨[(14,.r (.c (.d (.d .bool))))],(19::ra 21 7 (ra 29 7 (ra 81 80 ([])))),[],[]⟩)] (.seq (.a) (.seq (.a) (.seq (.block (.seq (.a) (.seq (.seq (.a) (.block (.loop ⟨[(91,.r (.c (.d (.d tI))))],(ra 21 7 (ra 92 31 ([]))),[],[]⟩ [(.exit 2,⟨[],(ra 21 7 (ra 91 32 ([]))),[],[]⟩),(.ret,⟨[(14,.r (.c (.d (.d .bool))))],(ra 21 7 (ra 91 32 ([]))),[],[]⟩)] (.a)))) (.seq (.a) (.block (.loop ⟨[(128,.r (.c (.d (.d tI))))],(ra 29 7 (ra 129 31 ([]))),[],[]⟩ [(.exit 4,⟨[],(ra 29 7 (ra 128 32 ([]))),[],[]⟩),(.ret,⟨[(14,.r (.c (.d (.d .bool))))],(ra 29 7 (ra 128 32 ([]))),[],[]⟩)] (.a))))))) (.a))))))) (.a)))))))
def m3:((Int×Int×Int×Int)×(List (Int×Int))×(Int×Int×Int)×(Int×Int×List Int×List Int)×(List (Int×Int))×(List (Int×Int))×Int)→Option (Bool) :=
 fun x=>(m4 ()).bind fun r=>bif PE.notM r then some false else (m5 (x.1.1,x.1.2.1,6,100,x.2.1)).bind fun r_1=>(sliceM x.2.2.2.1.2.2.1 0 (min (lenM
 x.2.2.2.1.2.2.1) 50)).bind fun r_2=>(sliceM x.2.2.2.1.2.2.2 0 (min (lenM x.2.2.2.1.2.2.2) 50)).bind fun r_3=>(sliceM x.2.2.2.2.2.1 0 (min (lenM
 x.2.2.2.2.2.1) 9)).bind fun r_4=>(m6 ((r_1.1,r_1.2.1,r_1.2.2.1,r_1.2.2.2),x.2.2.1.1,x.2.2.1.2.1,x.2.2.1.2.2)).bind fun r_5=>(loopM (fun (s:Int) =>
 bif ltM s (lenM [(r_1.1,r_1.2.1,r_1.2.2.1,r_1.2.2.2),(r_5.1,r_5.2.1,r_5.2.2.1,r_5.2.2.2),(x.2.2.2.1.1,x.2.2.2.1.2.1,r_2,r_3)]) then (idxM [(r_1.1,
 r_1.2.1,r_1.2.2.1,r_1.2.2.2),(r_5.1,r_5.2.1,r_5.2.2.1,r_5.2.2.2),(x.2.2.2.1.1,x.2.2.2.1.2.1,r_2,r_3)] s).bind fun r_6=>(m7 ((r_1.1,r_1.2.1,
 r_1.2.2.1,r_1.2.2.2),x.2.2.2.2.1)).bind fun r_7=>(loopM (fun (s_1:Int)=>bif ltM s_1 (lenM [r_7,r_4]) then (idxM [r_7,r_4] s_1).bind fun r_8=>(m8
 ((r_6.1,r_6.2.1,r_6.2.2.1,r_6.2.2.2),r_8)).bind fun r_9=>(m9 ((r_6.1,r_6.2.1,r_6.2.2.1,r_6.2.2.2),r_8)).bind fun r=>bif PE.orM (PE.orM (PE.notM
 (PE.andM (eqsM r_9.1.1 r.1.1) (eqsM r_9.1.2 r.1.2))) (PE.notM (PE.andM (eqsM r_9.2.1.1 r.2.1.1) (eqsM r_9.2.1.2 r.2.1.2)))) (PE.notM (eqM r_9.2.2 r.2.2)) then
 some (Sum.inr (Sum.inr false)) else some (Sum.inl (wrap .i64 (s_1+1))) else some (Sum.inr (Sum.inl ()))) 0).bind fun o=>Sum.elim (fun (t:Unit) =>
 (m10 (x.2.2.2.2.2.2,101)).bind fun r_8=>(loopM (fun (s_1:Int)=>bif ltM s_1 (lenM [x.2.2.2.2.2.2,r_8]) then (idxM [x.2.2.2.2.2.2,r_8] s_1).bind fun
 r_9=>(m11 ((r_6.1,r_6.2.1,r_6.2.2.1,r_6.2.2.2),r_9)).bind fun r_10=>(m12 ((r_6.1,r_6.2.1,r_6.2.2.1,r_6.2.2.2),r_9)).bind fun r=>bif PE.orM
 (PE.orM (PE.notM (PE.andM (eqsM r_10.1.1 r.1.1) (eqsM r_10.1.2 r.1.2))) (PE.notM (PE.andM (eqsM r_10.2.1.1 r.2.1.1) (eqsM r_10.2.1.2 r.2.1.2)))) (PE.notM (eqM
 r_10.2.2 r.2.2)) then some (Sum.inr (Sum.inr false)) else some (Sum.inl (wrap .i64 (s_1+1))) else some (Sum.inr (Sum.inl ()))) 0).bind fun o =>
 Sum.elim (fun (t:Unit)=>some (Sum.inl (wrap .i64 (s+1)))) (fun (t:Bool)=>some (Sum.inr (Sum.inr t))) o) (fun (t:Bool)=>some (Sum.inr
 (Sum.inr t))) o else some (Sum.inr (Sum.inl ()))) 0).bind fun o=>Sum.elim (fun (t:Unit)=>some r) (fun (t:Bool)=>some t) o
theorem c3:SpecOK Tryz.prog 3 ⟨as3,rs3,m3⟩ :=
 fc tabs12OK [] an3 Tryz.f3 fun x=>by kernel_rfl
def tabs3:Tabs:=Tabs.add tabs12 3 ⟨as3,rs3,m3⟩
theorem tabs3OK:TabOK Tryz.prog tabs3:=TabOK.add tabs12OK c3 Tryz.call3
end
end Go.Proofs.YtdgabicjcepmeaaGreatDoor

namespace Go.PE
def Le {α:Type} (a b:Option α):Prop:=∀ r,a=some r→b=some r
theorem Le.refl {α:Type} (a:Option α):Le a a:=fun _ h=>h
theorem Le.bind {α β:Type} {a a':Option α} {f f':α→Option β} (h:Le a a') (hf:∀ x,Le (f x) (f' x)):Le (Option.bind a f) (Option.bind a' f'):=by
 intro r hr
 cases a with
 | none=>cases hr
 | some x =>
  rw [h x rfl]
  exact hf x r hr
theorem Le.cond {α:Type} {c:Bool} {a a' b b':Option α} (h:Le a a') (h':Le b b'):Le (cond c a b) (cond c a' b'):=by
 cases c
 ·exact h'
 ·exact h
theorem Le.elim {α β γ:Type} {f f':α→Option γ} {g g':β→Option γ} (hf:∀ x,Le (f x) (f' x)) (hg:∀ x,Le (g x) (g' x)) (x:α⊕β):Le (Sum.elim f g x) (Sum.elim f' g' x):=by
 cases x with
 | inl a=>exact hf a
 | inr b=>exact hg b
theorem Le.iter {σ β:Type} {body body':σ→Option (σ⊕β)} (h:∀ s,Le (body s) (body' s)):∀ (n:Nat) (s:σ),Le (iterM body n s) (iterM body' n s)
 | 0,_=>Le.refl _
 | n+1,s=>by
  unfold iterM
  exact Le.bind (h s) fun x=>Le.elim (Le.iter h n) (fun _=>Le.refl _) x
def loopF {σ β:Type} (body:σ→Option (σ⊕β)) (s:σ):Option β:=iterM body 4096 s
theorem Le.loop {σ β:Type} {body body':σ→Option (σ⊕β)} (h:∀ s,Le (body s) (body' s)) (s:σ):Le (loopF body s) (loopM body' s) :=
 fun r hr=>loopM_iff.2 ⟨4096,Le.iter h 4096 s r hr⟩
def nilF {α β:Type} (xs:List α) (a b:Option β):Option β:=match xs with
 | []=>none
 | _::_=>b
theorem Le.nil {α β:Type} {xs:List α} {a a' b b':Option β} (h:Le b b'):Le (nilF xs a b) (nilM xs a' b'):=by
 cases xs with
 | nil=>intro r hr;cases hr
 | cons x xs=>exact h
theorem Le.out {α:Type} {a b:Option α} (h:Le a b) {r:α} (e:a=some r):b=some r:=h r e
attribute [irreducible] Le
end Go.PE
namespace Go.PE
open Go Go.Abs
def InR:(t:Ty)→t.den→Prop
 | .int k,x=>k.has x
 | .bool,_=>True
 | .str,x=>List.length x≤maxLen
 | .list t,xs=>List.length xs≤maxLen∧∀ (i:Nat) (x:t.den),xs[i]? = some x→InR t x
 | .one t,x=>InR t x
 | .pair a b,x=>InR a x.1∧InR b x.2
def OkT:(l:List Ty)→Tup (l.map .d)→Prop
 | [],_=>True
 | [t],x=>InR t x
 | t::u::r,x=>InR t x.1∧OkT (u::r) x.2
section
variable {S:Cells} {w:World} {η:Eta}
theorem Rep.ok:∀ {t:Ty} {x:t.den} {cs:List Value},Rep S w t x cs→InR t x
 | .int _,_,_,h=>h.2
 | .bool,_,_,_=>trivial
 | .str,_,_,h=>h.2
 | .list t,xs,_,h=>by
  obtain ⟨base,cap,rfl,h1,h2,h3⟩:=h
  refine ⟨Nat.le_trans h1 h2,fun i x hx=>?_⟩
  rcases h3 with h3 | ⟨b,off,_,h3⟩
  ·have:xs=[]:=List.length_eq_zero_iff.1 h3
   rw [this] at hx
   cases hx
  ·obtain ⟨es,h4,_⟩:=h3 i x hx
   exact Rep.ok h4
 | .one t,x,cs,h=>by
  have h':Rep S w t x cs:=h
  exact Rep.ok (t:=t) h'
 | .pair a b,x,cs,h=>by
  obtain ⟨c1,c2,rfl,h1,h2⟩:=h
  exact ⟨Rep.ok h1,Rep.ok h2⟩
theorem cv_ok:∀ {t:Ty} {x:t.den} {vs:List Value},All2 (CM S w η) (t.cv x) vs→InR t x
 | .int _,_,_,.cons h .nil=>let ⟨_,a,_⟩:=h.2;Rep.ok a
 | .bool,_,_,_=>trivial
 | .str,_,_,.cons h .nil=>let ⟨_,a,_⟩:=h.2;Rep.ok a
 | .list _,_,_,.cons h .nil=>let ⟨_,a,_⟩:=h.2;Rep.ok a
 | .one t,x,vs,h=>by
  have h':All2 (CM S w η) (t.cv x) vs:=h
  exact cv_ok (t:=t) h'
 | .pair a b,x,vs,h=>by
  have h':All2 (CM S w η) (a.cv x.1++b.cv x.2) vs:=h
  obtain ⟨b1,b2,rfl,h1,h2⟩:=All2.split h'
  exact ⟨cv_ok h1,cv_ok h2⟩
theorem rv_ok {t:Ty} {x:t.den} {v:Value} (h:RM S w η (t.rv x) v):InR t x:=by
 unfold Ty.rv at h
 split at h
 ·obtain ⟨vs,_,h2⟩:=h
  exact cv_ok h2
 ·obtain ⟨_,cs,h2,_⟩:=h
  exact Rep.ok h2
theorem rvs_ok:∀ {l:List Ty} {x:Tup (l.map .d)} {vs:List Value},All2 (RM S w η) (rvs l x) vs→OkT l x
 | [],_,_,_=>trivial
 | [t],x,_,.cons h .nil=>rv_ok h
 | t::u::r,x,_,h=>by
  have h':All2 (RM S w η) (t.rv x.1::rvs (u::r) x.2) _:=h
  cases h' with
  | cons h1 h2=>exact ⟨rv_ok h1,rvs_ok (l:=u::r) h2⟩
end
theorem law_of_ok {args:List Ty} {m:Tup (args.map .d)→Option Bool} (h:∀ x,OkT args x→m x=some true) :
  ∀ (S:Cells) (w:World) (η:Eta) (vs:List Value) x,All2 (RM S w η) (rvs args x) vs→m x=some true:=fun _ _ _ _ x hx=>h x (rvs_ok hx)

theorem wrap_in {n:Int} (h1:-9223372036854775808≤n) (h2:n≤9223372036854775807):IntKind.wrap .i64 n=n:=Go.IntWalk.i64_in n ⟨h1,h2⟩
theorem idxM_nat {α:Type} (xs:List α) (i:Nat):idxM xs (i:Int)=xs[i]? := by
 unfold idxM
 rw [decide_eq_true (by omega:(0:Int)≤i)]
 simp
theorem idxM_lt {α:Type} {xs:List α} {i:Nat} (h:i<xs.length):idxM xs (i:Int)=some xs[i]:=by
 rw [idxM_nat,List.getElem?_eq_getElem h]
theorem idxM_of {α:Type} {xs:List α} {i:Int} (h0:0≤i) (h:i<xs.length):idxM xs i=some (xs[i.toNat]'(by omega)):=by
 unfold idxM
 rw [decide_eq_true h0]
 exact List.getElem?_eq_getElem _
theorem chkM_of {i n:Int} (h0:0≤i) (h:i<n):chkM i n=some ():=by
 unfold chkM
 rw [decide_eq_true h0,decide_eq_true h]
theorem appM_of {α:Type} {b:Nat} {xs ys:List α} (h:(xs.length+ys.length)*b≤140737488355328):appM b xs ys=some (xs++ys):=by
 unfold appM
 rw [decide_eq_true h]
theorem mkM_of {α:Type} {n c:Int} {b:Nat} {d:α} (h0:0≤n) (h:n≤c) (hb:c*b≤140737488355328):mkM n c b d=some (List.replicate n.toNat d):=by
 unfold mkM
 rw [decide_eq_true h0,decide_eq_true h,decide_eq_true hb]
theorem setM_of {α:Type} {xs:List α} {i:Int} {f:α→Option α} {y:α} (h0:0≤i) (h:i<xs.length) (hy:f (xs[i.toNat]'(by omega))=some y):setM xs i f=some (xs.set i.toNat y):=by
 unfold setM
 rw [idxM_of h0 h]
 simp only [hy]
theorem sliceM_of {α:Type} {xs:List α} {lo hi:Int} (h0:0≤lo) (h:lo≤hi) (h2:hi≤xs.length):sliceM xs lo hi=some ((xs.take hi.toNat).drop lo.toNat):=by
 unfold sliceM
 rw [decide_eq_true h0,decide_eq_true h,decide_eq_true h2]
theorem loopM_inv {σ β:Type} {body:σ→Option (σ⊕β)} (P:Nat→σ→Prop) (Q:β→Prop) (n:Nat)
  (h:∀ k s,k≤n→P k s→(∃ s',k<n∧body s=some (.inl s')∧P (k+1) s')∨∃ r,body s=some (.inr r)∧Q r) :
  ∀ (m k:Nat) (s:σ),n-k=m→k≤n→P k s→∃ r,loopM body s=some r∧Q r:=by
 intro m
 induction m with
 | zero =>
  intro k s hm hk hP
  rcases h k s hk hP with ⟨s',hlt,_⟩ | ⟨r,h1,h2⟩
  ·omega
  ·exact ⟨r,by rw [loopM_eq,h1];rfl,h2⟩
 | succ m ih =>
  intro k s hm hk hP
  rcases h k s hk hP with ⟨s',hlt,h1,h2⟩ | ⟨r,h1,h2⟩
  ·obtain ⟨r,h3,h4⟩:=ih (k+1) s' (by omega) (by omega) h2
   exact ⟨r,by rw [loopM_eq,h1];exact h3,h4⟩
  ·exact ⟨r,by rw [loopM_eq,h1];rfl,h2⟩
theorem loopM_from {σ β:Type} {body:σ→Option (σ⊕β)} (P:Nat→σ→Prop) (Q:β→Prop) (n:Nat) {s:σ} (h0:P 0 s)
  (h:∀ k s,k≤n→P k s→(∃ s',k<n∧body s=some (.inl s')∧P (k+1) s')∨∃ r,body s=some (.inr r)∧Q r):∃ r,loopM body s=some r∧Q r :=
 loopM_inv P Q n h n 0 s (by omega) (by omega) h0
theorem loopM_fn {σ β:Type} {body:σ→Option (σ⊕β)} (g:Nat→σ) (n:Nat) {r:β} (h:∀ k,k<n→body (g k)=some (.inl (g (k+1)))) (he:body (g n)=some (.inr r)):loopM body (g 0)=some r:=by
 obtain ⟨r',h1,h2⟩:=loopM_from (body:=body) (fun k s=>s=g k) (fun x=>x=r) n (s:=g 0) rfl fun k s hk hs=>by
  subst hs
  by_cases hlt:k<n
  ·exact .inl ⟨_,hlt,h k hlt,rfl⟩
  ·have:k=n:=by omega
   subst this
   exact .inr ⟨r,he,rfl⟩
 rw [h1,h2]
end Go.PE
namespace Go.PE
open Go Go.Abs
def row {α:Type} (m:Nat) (g:Nat→α):List α:=(List.range m).map g
def rt {α:Type} (n:Nat) (len:Nat→Nat) (d:Nat→Nat→α):List (List α):=row n fun i=>row (len i) (d i)
def upd {α:Type} (d:Nat→Nat→α) (i j:Nat) (y:α):Nat→Nat→α:=fun a b=>if a=i∧b=j then y else d a b
section
variable {α:Type}
theorem row_length (m:Nat) (g:Nat→α):(row m g).length=m:=by simp [row]
theorem row_get {m:Nat} {g:Nat→α} {i:Nat} (h:i<m):(row m g)[i]? = some (g i):=by simp [row,h]
theorem row_idx {m:Nat} {g:Nat→α} {i:Nat} (h:i<m):idxM (row m g) (i:Int)=some (g i):=by rw [idxM_nat,row_get h]
theorem row_set {m:Nat} {g:Nat→α} {i:Nat} (h:i<m) (y:α):(row m g).set i y=row m fun a=>if a=i then y else g a:=by
 apply List.ext_getElem?
 intro k
 rw [List.getElem?_set]
 by_cases hk:k<m
 ·by_cases e:i=k
  ·subst e
   rw [if_pos rfl,if_pos (by rw [row_length];exact h),row_get h,if_pos rfl]
  ·have e':¬ k=i:=fun x=>e x.symm
   simp [e,e',row_get hk]
 ·have h1:i≠k:=by omega
  rw [if_neg h1,List.getElem?_eq_none (by rw [row_length];omega),List.getElem?_eq_none (by rw [row_length];omega)]
theorem row_succ (m:Nat) (g:Nat→α):row (m+1) g=row m g++[g m]:=by simp [row,List.range_succ]
theorem row_zero (g:Nat→α):row 0 g=[]:=rfl
end
theorem bind_of {α β:Type} {o:Option α} {x:α} {f:α→Option β} {r:Option β} (h:o=some x) (h2:f x=r):Option.bind o f=r:=by
 rw [h];exact h2
theorem loopM_is {σ β:Type} {body:σ→Option (σ⊕β)} {s:σ} {r:β} (P:Nat→σ→Prop) (n:Nat) (h0:P 0 s)
  (h:∀ k s,k≤n→P k s→(∃ s',k<n∧body s=some (.inl s')∧P (k+1) s')∨body s=some (.inr r)):loopM body s=some r:=by
 obtain ⟨r',h1,h2⟩:=loopM_from P (fun x=>x=r) n h0 fun k s hk hP=>by
  rcases h k s hk hP with h | h
  ·exact .inl h
  ·exact .inr ⟨r,h,rfl⟩
 rw [h1,h2]
theorem count_loop {σ β:Type} {body:Int×σ→Option ((Int×σ)⊕β)} (g:Nat→σ) (n:Nat) {r:β} (h:∀ k,k<n→body ((k:Int),g k)=some (.inl ((k:Int)+1,g (k+1)))) (he:body ((n:Int),g n)=some (.inr r)) :
  loopM body ((0:Int),g 0)=some r :=
 loopM_fn (fun k=>((k:Int),g k)) n (fun k hk=>h k hk) he
end Go.PE
namespace Go.PE
open Go Go.Abs
def Ans {α:Type} (o:Option α) (Q:α→Prop):Prop:=∃ r,o=some r∧Q r
theorem Ans.is {α:Type} {o:Option α} {r:α} (h:Ans o (fun x=>x=r)):o=some r:=by
 obtain ⟨x,h1,h2⟩:=h
 rw [h1,h2]
theorem Ans.of {α:Type} {o:Option α} {r:α} {Q:α→Prop} (h:o=some r) (hQ:Q r):Ans o Q:=⟨r,h,hQ⟩
theorem Ans.some {α:Type} {r:α} {Q:α→Prop} (hQ:Q r):Ans (some r) Q:=⟨r,rfl,hQ⟩
theorem Ans.mono {α:Type} {o:Option α} {P Q:α→Prop} (h:Ans o P) (hQ:∀ x,P x→Q x):Ans o Q:=by
 obtain ⟨x,h1,h2⟩:=h
 exact ⟨x,h1,hQ x h2⟩
theorem Ans.bind {α β:Type} {o:Option α} {f:α→Option β} {P:α→Prop} {Q:β→Prop} (h:Ans o P) (hf:∀ x,P x→Ans (f x) Q):Ans (Option.bind o f) Q:=by
 obtain ⟨x,h1,h2⟩:=h
 rw [h1]
 exact hf x h2
theorem Ans.seq {α β:Type} {o:Option α} {f:α→Option β} {x:α} {Q:β→Prop} (h:o=Option.some x) (hf:Ans (f x) Q):Ans (Option.bind o f) Q:=by
 rw [h]
 exact hf
theorem Ans.cond {α:Type} {c:Bool} {a b:Option α} {Q:α→Prop} (ht:c=true→Ans a Q) (hf:c=false→Ans b Q):Ans (bif c then a else b) Q:=by
 cases c
 ·exact hf rfl
 ·exact ht rfl
def Nxt {σ β:Type} (P:σ→Prop) (Q:β→Prop):σ⊕β→Prop
 | .inl s=>P s
 | .inr r=>Q r
theorem Ans.loop {σ β:Type} {body:σ→Option (σ⊕β)} {s:σ} {Q:β→Prop} (P:Nat→σ→Prop) (n:Nat) (h0:P 0 s)
  (h:∀ k s,k≤n→P k s→Ans (body s) (Nxt (fun s'=>k<n∧P (k+1) s') Q)):Ans (loopM body s) Q:=by
 refine loopM_from P Q n h0 fun k s hk hP=>?_
 obtain ⟨o,h1,h2⟩:=h k s hk hP
 cases o with
 | inl s'=>exact .inl ⟨s',h2.1,h1,h2.2⟩
 | inr r=>exact .inr ⟨r,h1,h2⟩
theorem ltI {a b:Int} (h:a<b):ltM a b=true:=decide_eq_true h
theorem geI {a b:Int} (h:b≤a):ltM a b=false:=decide_eq_false (by omega)
theorem leI {a b:Int} (h:a≤b):leM a b=true:=decide_eq_true h
theorem gtI {a b:Int} (h:b<a):leM a b=false:=decide_eq_false (by omega)
theorem eqI {a b:Int} (h:a=b):eqM a b=true:=decide_eq_true h
theorem neI {a b:Int} (h:a≠b):eqM a b=false:=decide_eq_false h
theorem notT:notM true=false:=rfl
theorem notF:notM false=true:=rfl
theorem orT (b:Bool):orM true b=true:=rfl
theorem orF (b:Bool):orM false b=b:=rfl
theorem andT (b:Bool):andM true b=b:=rfl
theorem andF (b:Bool):andM false b=false:=rfl
def pk (c n:Int):Int:=(if c<0 then -(c+1) else c) % n
theorem pk_lo {c n:Int} (h:0<n):0≤pk c n:=Int.emod_nonneg _ (by omega)
theorem pk_hi {c n:Int} (h:0<n):pk c n<n:=Int.emod_lt_of_pos _ h
theorem remM_of {a b:Int} (ha:0≤a) (hb:0<b):remM a b=some (a % b):=by
 unfold remM
 rw [decide_eq_false (by omega)]
 show some (a.tmod b)=some (a % b)
 rw [Int.tmod_eq_emod_of_nonneg ha]
theorem divM_pos {k:IntKind} {a b:Int} (hb:b≠0):divM k a b=some (k.wrap (a.tdiv b)):=by
 unfold divM
 rw [decide_eq_false hb]
theorem pk_text {c n:Int} (hc:IntKind.i64.has c) (hn:0<n) :
  Option.bind (bif ltM c (0:Int) then some (IntKind.wrap .i64 (negM (IntKind.wrap .i64 (c+(1:Int))))) else some c) (fun (o:Int)=>Option.bind (remM o n) fun (r:Int)=>some r)=some (pk c n):=by
 have hc':-9223372036854775808≤c∧c≤9223372036854775807:=hc
 unfold pk
 by_cases h:c<0
 ·rw [ltI h,cond_true,Option.bind_some,if_pos h,wrap_in (n:=c+1) (by omega) (by omega)]
  unfold negM
  rw [wrap_in (by omega) (by omega),remM_of (by omega) hn]
  rfl
 ·rw [geI (by omega),cond_false,Option.bind_some,if_neg h,remM_of (by omega) hn]
  rfl
theorem row_idxI {α:Type} {m:Nat} {g:Nat→α} {i:Int} (h0:0≤i) (h:i<m):idxM (row m g) i=some (g i.toNat):=by
 obtain ⟨k,rfl⟩:=Int.eq_ofNat_of_zero_le h0
 exact row_idx (by omega)
theorem app_row {α:Type} {b m:Nat} {g:Nat→α} (hb:(m+1)*b≤140737488355328):appM b (row m g) [g m]=some (row (m+1) g):=by
 rw [appM_of (by rw [row_length];simpa using hb),row_succ]
theorem app_rowOf {α:Type} {b m:Nat} {g:Nat→α} {y:α} (hy:y=g m) (hb:(m+1)*b≤140737488355328):appM b (row m g) [y]=some (row (m+1) g):=by
 rw [hy,app_row hb]
end Go.PE
namespace Go.Proofs.YtdgabicjcepmeaaGreatDoor
open Go Go.Abs Go.PE
abbrev i64 (n:Int):Prop:=-9223372036854775808≤n∧n≤9223372036854775807
def nn (W H:Nat):Nat:=(W+1)*(H+1)
def fd (W H:Nat) (lo hi:Nat→Int):Int×Int×List Int×List Int:=((W:Int),(H:Int),row (nn W H) lo,row (nn W H) hi)
structure OkF (W H:Nat) (lo hi:Nat→Int):Prop where
 w1:1≤W
 w6:W≤6
 h1:1≤H
 h6:H≤6
 l0:∀ i,i<nn W H→0≤lo i
 lh:∀ i,i<nn W H→lo i≤hi i
 h9:∀ i,i<nn W H→hi i≤100
theorem nn_bd {W H:Nat} (h1:W≤6) (h2:H≤6):nn W H≤49:=Nat.mul_le_mul (show W+1≤7 by omega) (show H+1≤7 by omega)
theorem nn_pos (W H:Nat):0<nn W H:=Nat.mul_pos (by omega) (by omega)
theorem lenR {α:Type} (m:Nat) (g:Nat→α):lenM (row m g)=(m:Int):=by show ((row m g).length:Int)=_;rw [row_length]
theorem lenL {α:Type} (l:List α):lenM l=(l.length:Int):=rfl
theorem set_rowA {α:Type} {m j:Nat} {g:Nat→α} {y:α} (hj:j<m):setM (row m g) (j:Int) (fun _=>some y)=some (row m fun a=>if a=j then y else g a):=by
 unfold setM
 rw [row_idx hj]
 simp only
 rw [show ((j:Int)).toNat=j by omega,row_set hj]
theorem nn_wrap {W H:Nat} (h1:W≤6) (h2:H≤6):IntKind.wrap .i64 (IntKind.wrap .i64 ((W:Int)+1)*IntKind.wrap .i64 ((H:Int)+1))=(nn W H:Int):=by
 have:=nn_bd h1 h2
 have e:((W:Int)+1)*((H:Int)+1)=(nn W H:Int):=by unfold nn;rw [Int.natCast_mul];rfl
 rw [wrap_in (n:=(W:Int)+1) (by omega) (by omega),wrap_in (n:=(H:Int)+1) (by omega) (by omega),e,wrap_in (by omega) (by omega)]
theorem pick_ok {c n:Int} (hc:i64 c) (hn:0<n):m22 (c,n)=some (pk c n):=pk_text hc hn
theorem pickL_ok {c n:Int} (hc:i64 c) (hn:0<n):m10 (c,n)=some (pk c n):=pk_text hc hn
theorem within_ok (n lo hi:Int):m38 (n,lo,hi)=some (decide (lo≤n∧n≤hi)):=by
 unfold m38
 dsimp only
 by_cases h1:lo≤n
 ·rw [leI h1,andT]
  by_cases h2:n≤hi
  ·rw [leI h2,decide_eq_true ⟨h1,h2⟩]
  ·rw [gtI (by omega),decide_eq_false (by omega)]
 ·rw [gtI (by omega),andF,decide_eq_false (by omega)]
theorem pass_loop {α:Type} {n:Nat} {body:Int→Option (Int⊕(Unit⊕α))} (hb:∀ k,k<n→body (k:Int)=some (.inl ((k:Int)+1))) (he:body (n:Int)=some (.inr (.inl ()))):loopM body 0=some (.inl ()) :=
 loopM_fn (fun k=>(k:Int)) n hb he
theorem valid_ok {W H:Nat} {lo hi:Nat→Int} (h:OkF W H lo hi):m21 (fd W H lo hi)=some true:=by
 have h49:=nn_bd h.w6 h.h6
 have w1:=h.w1
 have w6:=h.w6
 have h1:=h.h1
 have h6:=h.h6
 unfold m21 fd
 dsimp only
 rw [within_ok,Option.bind_some,decide_eq_true (by omega),notT,notF,cond_true,within_ok,Option.bind_some,decide_eq_true (by omega),notT,orF,orF,lenR,lenR,nn_wrap w6 h6,eqI rfl,notT,orF,cond_false]
 refine bind_of (pass_loop (n:=nn W H) (fun k hk=>?_) ?_) rfl
 ·have a:=h.l0 k hk
  have b:=h.lh k hk
  have c:=h.h9 k hk
  rw [ltI (by omega),cond_true,row_idx hk,Option.bind_some,row_idx hk,Option.bind_some,within_ok,Option.bind_some,decide_eq_true (by omega),notT,notF,cond_true,Option.bind_some,orF,geI (by omega),cond_false,wrap_in (by omega) (by omega)]
 ·rw [geI (by omega),cond_false]
def src (x:List (Int×Int)) (i:Nat):Int×Int:=if x.length=0 then (7*(i:Int)+(i:Int)*(i:Int),0) else x.getD (i % x.length) (0,0)
def loF (most:Int) (x:List (Int×Int)) (i:Nat):Int:=pk (src x i).1 (most+1)
def hiF (most:Int) (x:List (Int×Int)) (i:Nat):Int:=min (loF most x i+pk (src x i).2 30) most
def szF (w size:Int):Nat:=(1+pk w size).toNat
theorem szF_bd {w size:Int} (h:1≤size) (h6:size≤6):1≤szF w size∧szF w size≤6∧(szF w size:Int)=1+pk w size∧szF w size≤size:=by
 have h1:=pk_lo (c:=w) (n:=size) (by omega)
 have h2:=pk_hi (c:=w) (n:=size) (by omega)
 unfold szF
 omega
theorem made_F {w h size most:Int} {x:List (Int×Int)} (hs:1≤size) (hs6:size≤6) (hm0:0≤most) (hm:most≤100):OkF (szF w size) (szF h size) (loF most x) (hiF most x):=by
 have a:=szF_bd (w:=w) hs hs6
 have b:=szF_bd (w:=h) hs hs6
 refine ⟨a.1,a.2.1,b.1,b.2.1,fun i _=>pk_lo (by omega),fun i _=>?_,fun i _=>?_⟩
 ·have h1:=pk_hi (c:=(src x i).1) (n:=most+1) (by omega)
  have h2:=pk_lo (c:=(src x i).2) (n:=30) (by omega)
  unfold hiF loF
  omega
 ·unfold hiF;omega
theorem src_ok {x:List (Int×Int)} (hx:∀ p∈x,i64 p.1∧i64 p.2) {i:Nat} (hi:i≤100):i64 (src x i).1∧i64 (src x i).2:=by
 unfold src
 by_cases h0:x.length=0
 ·rw [if_pos h0]
  have:=Int.mul_le_mul (show (i:Int)≤100 by omega) (show (i:Int)≤100 by omega) (by omega) (by omega)
  have h2:=Int.mul_nonneg (show (0:Int)≤i by omega) (show (0:Int)≤i by omega)
  unfold i64
  dsimp only
  omega
 ·rw [if_neg h0]
  have hlt:i % x.length<x.length:=Nat.mod_lt _ (by omega)
  have:x.getD (i % x.length) (0,0)∈x:=by simp [List.getD,hlt]
  exact hx _ this
theorem made_ok {w h size most:Int} {x:List (Int×Int)} (hw:i64 w) (hh:i64 h) (hs:1≤size) (hs6:size≤6) (hm0:0≤most) (hm:most≤100) (hx:∀ p∈x,i64 p.1∧i64 p.2) (hxl:x.length≤maxLen):m5 (w,h,size,most,x)=some (fd (szF w size) (szF h size) (loF most x) (hiF most x)):=by
 have hxl:x.length≤9223372036854775807:=hxl
 obtain ⟨a1,a2,a3,_⟩:=szF_bd (w:=w) hs hs6
 obtain ⟨b1,b2,b3,_⟩:=szF_bd (w:=h) hs hs6
 have h49:=nn_bd a2 b2
 unfold m5
 dsimp only
 rw [pick_ok hw (by omega),Option.bind_some,pick_ok hh (by omega),Option.bind_some,← a3,← b3,wrap_in (n:=((szF w size:Nat):Int)) (by omega) (by omega),wrap_in (n:=((szF h size:Nat):Int)) (by omega) (by omega)]
 refine bind_of (count_loop (fun k=>((szF w size:Int),(szF h size:Int),row k (loF most x),row k (hiF most x))) (nn (szF w size) (szF h size)) (r:=((szF w size:Int),(szF h size:Int),row (nn (szF w size) (szF h size)) (loF most x),row (nn (szF w size) (szF h size)) (hiF most x))) (fun k hk=>?_) ?_) rfl
 ·have hsrc:=src_ok hx (show k≤100 by omega)
  dsimp only
  rw [nn_wrap a2 b2,ltI (by omega),cond_true]
  refine bind_of (x:=src x k) ?_ ?_
  ·unfold src
   by_cases h0:x.length=0
   ·rw [geI (by rw [lenL];omega),cond_false,if_pos h0]
    have:=Int.mul_le_mul (show (k:Int)≤100 by omega) (show (k:Int)≤100 by omega) (by omega) (by omega)
    have h2:=Int.mul_nonneg (show (0:Int)≤k by omega) (show (0:Int)≤k by omega)
    rw [wrap_in (n:=7*(k:Int)) (by omega) (by omega),wrap_in (n:=(k:Int)*k) (by omega) (by omega),wrap_in (by omega) (by omega)]
   ·have hlt:k % x.length<x.length:=Nat.mod_lt _ (by omega)
    rw [ltI (by rw [lenL];omega),cond_true,if_neg h0,lenL,remM_of (by omega) (by omega),Option.bind_some,← Int.natCast_emod,idxM_lt hlt,Option.bind_some]
    simp [List.getD,hlt]
  ·have l1:=pk_lo (c:=(src x k).1) (n:=most+1) (by omega)
   have l2:=pk_hi (c:=(src x k).1) (n:=most+1) (by omega)
   have g1:=pk_lo (c:=(src x k).2) (n:=30) (by omega)
   have g2:=pk_hi (c:=(src x k).2) (n:=30) (by omega)
   rw [wrap_in (n:=most+1) (by omega) (by omega),pick_ok hsrc.1 (by omega),Option.bind_some,app_rowOf (y:=pk (src x k).1 (most+1)) (g:=loF most x) rfl (by show (k+1)*8≤_;omega),Option.bind_some,pick_ok hsrc.2 (by omega),Option.bind_some,wrap_in (n:=_+pk (src x k).2 30) (by omega) (by omega),app_rowOf (y:=min (pk (src x k).1 (most+1)+pk (src x k).2 30) most) (g:=hiF most x) rfl (by show (k+1)*8≤_;omega),Option.bind_some,wrap_in (by omega) (by omega)]
 ·dsimp only
  rw [nn_wrap a2 b2,geI (by omega),cond_false]
end Go.Proofs.YtdgabicjcepmeaaGreatDoor
namespace Go.Proofs.YtdgabicjcepmeaaGreatDoor
open Go Go.Abs Go.PE
def nv (W:Nat) (v:Nat→Int) (x y:Int):Int:=v (y*((W:Int)+1)+x).toNat
def lowT (W:Nat) (v:Nat→Int) (cx cy x y d:Int):Int:=(d-(x-cx*d))*nv W v cx cy+((x-cx*d)-(y-cy*d))*nv W v (cx+1) cy+(y-cy*d)*nv W v (cx+1) (cy+1)
def uppT (W:Nat) (v:Nat→Int) (cx cy x y d:Int):Int:=(d-(y-cy*d))*nv W v cx cy+((y-cy*d)-(x-cx*d))*nv W v cx (cy+1)+(x-cx*d)*nv W v (cx+1) (cy+1)
def atv (W H:Nat) (v:Nat→Int) (x y d:Int):Int :=
 if y-min (y / d) ((H:Int)-1)*d≤x-min (x / d) ((W:Int)-1)*d then lowT W v (min (x / d) ((W:Int)-1)) (min (y / d) ((H:Int)-1)) x y d
 else uppT W v (min (x / d) ((W:Int)-1)) (min (y / d) ((H:Int)-1)) x y d
end Go.Proofs.YtdgabicjcepmeaaGreatDoor
namespace Go.Proofs.YtdgabicjcepmeaaGreatDoor
open Go Go.Abs Go.PE
open Go.IntKind (wrap)
structure OkV (W H:Nat) (v:Nat→Int):Prop where
 w1:1≤W
 w6:W≤6
 h1:1≤H
 h6:H≤6
 v:∀ i,i<nn W H→0≤v i∧v i≤100
theorem OkF.okLo {W H:Nat} {lo hi:Nat→Int} (h:OkF W H lo hi):OkV W H lo:=⟨h.w1,h.w6,h.h1,h.h6,fun i hi=>by have:=h.l0 i hi;have:=h.lh i hi;have:=h.h9 i hi;omega⟩
theorem OkF.okHi {W H:Nat} {lo hi:Nat→Int} (h:OkF W H lo hi):OkV W H hi:=⟨h.w1,h.w6,h.h1,h.h6,fun i hi=>by have:=h.l0 i hi;have:=h.lh i hi;have:=h.h9 i hi;omega⟩
theorem node_bd {W H:Nat} {cx cy:Int} (x0:0≤cx) (x1:cx≤W) (y0:0≤cy) (y1:cy≤H):0≤cy*((W:Int)+1)∧0≤cy*((W:Int)+1)+cx∧cy*((W:Int)+1)+cx<nn W H:=by
 have h1:=Int.mul_nonneg y0 (show (0:Int)≤(W:Int)+1 by omega)
 have h2:=Int.mul_le_mul_of_nonneg_right y1 (show (0:Int)≤(W:Int)+1 by omega)
 have e:(nn W H:Int)=(H:Int)*((W:Int)+1)+((W:Int)+1):=by
  unfold nn
  rw [Int.natCast_mul,Int.mul_comm]
  show ((H:Int)+1)*((W:Int)+1)=_
  rw [Int.add_mul,Int.one_mul]
 omega
theorem nv_bd {W H:Nat} {v:Nat→Int} (h:OkV W H v) {cx cy:Int} (x0:0≤cx) (x1:cx≤W) (y0:0≤cy) (y1:cy≤H):0≤nv W v cx cy∧nv W v cx cy≤100:=by
 obtain ⟨_,b,c⟩:=node_bd x0 x1 y0 y1
 exact h.v _ (by omega)
theorem node_ok {W H:Nat} {v:Nat→Int} (w6:W≤6) (h6:H≤6) {cx cy:Int} (x0:0≤cx) (x1:cx≤W) (y0:0≤cy) (y1:cy≤H):idxM (row (nn W H) v) (wrap .i64 (wrap .i64 (cy*wrap .i64 ((W:Int)+1))+cx))=some (nv W v cx cy):=by
 obtain ⟨a,b,c⟩:=node_bd x0 x1 y0 y1
 have h49:=nn_bd w6 h6
 rw [wrap_in (n:=(W:Int)+1) (by omega) (by omega),wrap_in (n:=cy*_) (by omega) (by omega),wrap_in (by omega) (by omega),row_idxI b c];rfl
theorem prod_bd {a b A B:Int} (a0:0≤a) (a1:a≤A) (b0:0≤b) (b1:b≤B):0≤a*b∧a*b≤A*B :=
 ⟨Int.mul_nonneg a0 b0,Int.mul_le_mul a1 b1 b0 (by omega)⟩
def atR (W H:Nat) (lo hi:Nat→Int) (x y d:Int):Int×Int×Int:=if 1≤d∧d≤60∧0≤x∧x≤W*d∧0≤y∧y≤H*d then (atv W H lo x y d,atv W H hi x y d,0) else (0,0,250)
end Go.Proofs.YtdgabicjcepmeaaGreatDoor
namespace Go.Proofs.YtdgabicjcepmeaaGreatDoor
open Go Go.Abs Go.PE
open Go.IntKind (wrap)
abbrev Cor:=Int×Int×Int
abbrev Tri:=Cor×Cor×Cor
def nd (W:Nat) (v:Nat→Int) (x y:Int):Cor:=(x,y,nv W v x y)
def triF (W:Nat) (v:Nat→Int) (k:Nat):Tri :=
 let cx:Int:=((k / 2 % W:Nat):Int)
 let cy:Int:=((k / 2 / W:Nat):Int)
 if k % 2=0 then (nd W v cx cy,nd W v (cx+1) cy,nd W v (cx+1) (cy+1)) else (nd W v cx cy,nd W v (cx+1) (cy+1),nd W v cx (cy+1))
theorem triF_low {W:Nat} (v:Nat→Int) {cx cy:Nat} (h:cx<W):triF W v (2*(cy*W+cx))=(nd W v cx cy,nd W v (cx+1) cy,nd W v (cx+1) (cy+1)):=by
 unfold triF
 rw [show 2*(cy*W+cx) / 2=cy*W+cx by omega,if_pos (by omega),Nat.mul_comm cy W,Nat.mul_add_mod,Nat.mod_eq_of_lt h,Nat.mul_add_div (by omega),Nat.div_eq_of_lt h,Nat.add_zero]
theorem triF_upp {W:Nat} (v:Nat→Int) {cx cy:Nat} (h:cx<W):triF W v (2*(cy*W+cx)+1)=(nd W v cx cy,nd W v (cx+1) (cy+1),nd W v cx (cy+1)):=by
 unfold triF
 rw [show (2*(cy*W+cx)+1) / 2=cy*W+cx by omega,if_neg (by omega),Nat.mul_comm cy W,Nat.mul_add_mod,Nat.mod_eq_of_lt h,Nat.mul_add_div (by omega),Nat.div_eq_of_lt h,Nat.add_zero]
theorem tSum_bd {W H:Nat} {v:Nat→Int} (h:OkV W H v) {k:Nat} (hk:k<2*(H*W)):0≤(triF W v k).1.2.2∧(triF W v k).1.2.2≤100∧0≤(triF W v k).2.1.2.2∧(triF W v k).2.1.2.2≤100∧0≤(triF W v k).2.2.2.2∧(triF W v k).2.2.2.2≤100:=by
 have w1:=h.w1
 have hc:k / 2<H*W:=by omega
 have hx:k / 2 % W<W:=Nat.mod_lt _ (by omega)
 have hy:k / 2 / W<H:=(Nat.div_lt_iff_lt_mul (by omega)).2 hc
 unfold triF
 dsimp only
 generalize k / 2 % W=p at *
 generalize k / 2 / W=q at *
 have n00:=nv_bd h (cx:=(p:Int)) (cy:=(q:Int)) (by omega) (by omega) (by omega) (by omega)
 have n10:=nv_bd h (cx:=(p:Int)+1) (cy:=(q:Int)) (by omega) (by omega) (by omega) (by omega)
 have n11:=nv_bd h (cx:=(p:Int)+1) (cy:=(q:Int)+1) (by omega) (by omega) (by omega) (by omega)
 have n01:=nv_bd h (cx:=(p:Int)) (cy:=(q:Int)+1) (by omega) (by omega) (by omega) (by omega)
 split
 ·exact ⟨n00.1,n00.2,n10.1,n10.2,n11.1,n11.2⟩
 ·exact ⟨n00.1,n00.2,n11.1,n11.2,n01.1,n01.2⟩
end Go.Proofs.YtdgabicjcepmeaaGreatDoor
namespace Go.Proofs.YtdgabicjcepmeaaGreatDoor
theorem qdiv_mul {n d:Rat} (hd:0<d):n / d*d=n:=Rat.div_mul_cancel (by grind)
def ar (a b c:Rat):Rat:=if 0<a then 1 / 2 else if 0<b then 1 / 2-a*a / (2*((b-a)*(c-a))) else if 0<c then c*c / (2*((c-a)*(c-b))) else 0
theorem ar_1 {a b c:Rat} (h:0<a):ar a b c=1 / 2:=if_pos h
theorem ar_2 {a b c:Rat} (h:a≤0) (hb:0<b):ar a b c=1 / 2-a*a / (2*((b-a)*(c-a))):=by unfold ar;rw [if_neg (by grind),if_pos hb]
theorem ar_3 {a b c:Rat} (h:a≤0) (hb:b≤0) (hc:0<c):ar a b c=c*c / (2*((c-a)*(c-b))):=by unfold ar;rw [if_neg (by grind),if_neg (by grind),if_pos hc]
theorem ar_4 {a b c:Rat} (h:a≤0) (hb:b≤0) (hc:c≤0):ar a b c=0:=by unfold ar;rw [if_neg (by grind),if_neg (by grind),if_neg (by grind)]
end Go.Proofs.YtdgabicjcepmeaaGreatDoor
namespace Go.Proofs.YtdgabicjcepmeaaGreatDoor
def Dn (D B:Nat) (q:Rat):Prop:=∃ z:Int,q*(D:Rat)=(z:Rat)∧z.natAbs≤B*D
theorem mul_den (q:Rat):q*(q.den:Rat)=(q.num:Rat):=by
 have h:((q.den:Int):Rat)≠0:=fun e=>q.den_nz (by have:=Rat.intCast_inj.1 (show ((q.den:Int):Rat)=((0:Int):Rat) from e);omega)
 have e:q=(q.num:Rat) / ((q.den:Int):Rat):=by rw [← Rat.divInt_eq_div];exact (Rat.num_divInt_den q).symm
 have:=Rat.div_mul_cancel (a:=(q.num:Rat)) h
 rw [← e,Rat.intCast_natCast] at this
 exact this
theorem Dn.num_den {D B:Nat} {q:Rat} (hD:0<D) (h:Dn D B q):q.den≤D∧q.num.natAbs≤B*D:=by
 obtain ⟨z,e,hz⟩:=h
 have hd:=q.den_pos
 have e1:q*(q.den:Rat)=(q.num:Rat):=mul_den q
 have e2:q.num*(D:Int)=z*(q.den:Int):=by
  have:((q.num*(D:Int):Int):Rat)=((z*(q.den:Int):Int):Rat):=by
   rw [Rat.intCast_mul,Rat.intCast_mul,← e,← e1,Rat.intCast_natCast,Rat.intCast_natCast]
   grind
  exact Rat.intCast_inj.1 this
 have e3:q.num.natAbs*D=z.natAbs*q.den:=by
  have:=congrArg Int.natAbs e2
  rwa [Int.natAbs_mul,Int.natAbs_mul,Int.natAbs_natCast,Int.natAbs_natCast] at this
 have hdv:q.den ∣ D:=by
  have h1:q.den ∣ q.num.natAbs*D:=⟨z.natAbs,by rw [e3,Nat.mul_comm]⟩
  exact (Nat.Coprime.symm q.reduced).dvd_of_dvd_mul_left h1
 have hle:=Nat.le_of_dvd hD hdv
 refine ⟨hle,?_⟩
 have h1:q.num.natAbs*D≤B*q.den*D:=by
  rw [e3]
  have:=Nat.mul_le_mul_right q.den hz
  rw [Nat.mul_right_comm] at this
  exact this
 have h2:=Nat.le_of_mul_le_mul_right h1 hD
 exact Nat.le_trans h2 (Nat.mul_le_mul_left B hle)
theorem Dn.add {D B C:Nat} {p q:Rat} (hp:Dn D B p) (hq:Dn D C q):Dn D (B+C) (p+q):=by
 obtain ⟨z,e,hz⟩:=hp
 obtain ⟨w,f,hw⟩:=hq
 refine ⟨z+w,?_,?_⟩
 ·rw [Rat.intCast_add,← e,← f];grind
 ·rw [Nat.add_mul];omega
theorem Dn.mono {D B C:Nat} {q:Rat} (h:Dn D B q) (hB:B≤C):Dn D C q:=by
 obtain ⟨z,e,hz⟩:=h
 exact ⟨z,e,Nat.le_trans hz (Nat.mul_le_mul_right D hB)⟩
theorem Dn.zero {D:Nat}:Dn D 0 0:=⟨0,by rw [Rat.zero_mul];rfl,by omega⟩
theorem divInt_eq (n d:Int):Rat.divInt n d=(n:Rat) / (d:Rat):=by exact Rat.divInt_eq_div n d
theorem Dn.of {D B:Nat} {n d:Int} (h0:d≠0) (hd:d ∣ (D:Int)) (hn:n.natAbs≤B*d.natAbs):Dn D B (Rat.divInt n d):=by
 obtain ⟨k,hk⟩:=hd
 have hd0:(d:Rat)≠0:=fun e=>h0 (Rat.intCast_inj.1 (by simpa using e))
 refine ⟨n*k,?_,?_⟩
 ·rw [divInt_eq,← Rat.intCast_natCast,hk,Rat.intCast_mul,Rat.intCast_mul,← Rat.mul_assoc,Rat.div_mul_cancel hd0]
 ·have e:D=d.natAbs*k.natAbs:=by have:=congrArg Int.natAbs hk;rwa [Int.natAbs_mul,Int.natAbs_natCast] at this
  rw [e,Int.natAbs_mul,← Nat.mul_assoc]
  exact Nat.mul_le_mul_right _ hn
end Go.Proofs.YtdgabicjcepmeaaGreatDoor
namespace Go.Proofs.YtdgabicjcepmeaaGreatDoor
def trn (a b c:Int×Int):Int:=(b.1-a.1)*(c.2-a.2)-(b.2-a.2)*(c.1-a.1)
def farD (a b:Int×Int):Int:=(a.1-b.1)*(a.1-b.1)+(a.2-b.2)*(a.2-b.2)
def evP (G:Int×Int×Int) (p:Int×Int):Int:=G.1*p.1+G.2.1*p.2+G.2.2
def ExtP (S:List (Int×Int)) (a:Int×Int):Prop:=∃ G,evP G a=0∧∀ p∈S,p≠a→0<evP G p
def Suc (S:List (Int×Int)) (a c:Int×Int):Prop:=c∈S∧c≠a∧∀ p∈S,p≠a→0<trn a c p∨(trn a c p=0∧farD a p≤farD a c)
theorem ev_prop {G:Int×Int×Int} {a c p:Int×Int} (h0:evP G a=0) (h:trn a c p=0):evP G c*(p.1-a.1)=evP G p*(c.1-a.1)∧evP G c*(p.2-a.2)=evP G p*(c.2-a.2):=by
 unfold evP trn at *
 constructor<;>grind
theorem plu {G:Int×Int×Int} {a w u v:Int×Int} (h0:evP G a=0):evP G w*trn a u v=evP G u*trn a w v-evP G v*trn a w u:=by
 unfold evP trn at *
 grind
theorem sq0 (x:Int):0≤x*x:=by
 rcases Int.le_total 0 x with h | h
 ·exact Int.mul_nonneg h h
 ·have:=Int.mul_nonneg (show 0≤-x by omega) (show 0≤-x by omega);rwa [Int.neg_mul_neg] at this
theorem farD_pos {a c:Int×Int} (h:c≠a):0<farD a c:=by
 unfold farD
 have h1:∀ x:Int,0≤x*x:=fun x=>sq0 x
 have h2:∀ x:Int,x≠0→0<x*x:=fun x hx=>by
  have:=h1 x
  have:x*x≠0:=Int.mul_ne_zero hx hx
  omega
 by_cases e:a.1-c.1=0
 ·have e2:a.2-c.2≠0:=fun e2=>h (Prod.ext (by omega) (by omega))
  have:=h2 _ e2
  have:=h1 (a.1-c.1)
  omega
 ·have:=h2 _ e
  have:=h1 (a.2-c.2)
  omega
theorem seg {G:Int×Int×Int} {a c p:Int×Int} (h0:evP G a=0) (hc:0<evP G c) (hp:0<evP G p) (hca:c≠a) (h:trn a c p=0) (hf:farD a p≤farD a c):evP G p≤evP G c∧(evP G p=evP G c→p=c):=by
 obtain ⟨e1,e2⟩:=ev_prop h0 h
 have hpos:=farD_pos hca
 have key:evP G c*evP G c*farD a p=evP G p*evP G p*farD a c:=by unfold farD;grind
 generalize hgc:evP G c=x at *
 generalize hgp:evP G p=y at *
 constructor
 ·refine Int.not_lt.1 fun hl=>?_
  have k1:x*x<y*y:=by
   have:=Int.mul_lt_mul_of_pos_left hl hc
   have:=Int.mul_lt_mul_of_pos_right hl hp
   omega
  have k2:=Int.mul_lt_mul_of_pos_right k1 hpos
  have k3:=Int.mul_le_mul_of_nonneg_left hf (sq0 x)
  omega
 ·intro e
  subst e
  have f1:=Int.eq_of_mul_eq_mul_left (by omega) e1
  have f2:=Int.eq_of_mul_eq_mul_left (by omega) e2
  exact Prod.ext (by omega) (by omega)
theorem no_mid {S:List (Int×Int)} {a c b:Int×Int} (ha:ExtP S a) (haS:a∈S) (hs:Suc S a c) (hb:ExtP S b) (hbS:b∈S) (h:trn a c b=0) (h1:b≠a) (h2:b≠c):False:=by
 obtain ⟨G,g0,g1⟩:=ha
 obtain ⟨K,k0,k1⟩:=hb
 obtain ⟨cS,ca,hall⟩:=hs
 have hf:farD a b≤farD a c:=by
  rcases hall b hbS h1 with x | x
  ·omega
  ·exact x.2
 obtain ⟨m1,m2⟩:=seg g0 (g1 c cS ca) (g1 b hbS h1) ca h hf
 have m3:evP G b<evP G c:=by
  have:evP G b≠evP G c:=fun e=>h2 (m2 e)
  omega
 obtain ⟨e1,e2⟩:=ev_prop (G:=G) g0 h
 have p1:=k1 a haS (fun e=>h1 e.symm)
 have p2:=k1 c cS (fun e=>h2 e.symm)
 have q:=g1 b hbS h1
 have key:(evP G c-evP G b)*evP K a+evP G b*evP K c=evP G c*evP K b:=by
  generalize evP G c=x at *
  generalize evP G b=y at *
  have t:x*(evP K b-evP K a)=y*(evP K c-evP K a):=by unfold evP;grind
  grind
 rw [k0,Int.mul_zero] at key
 have:=Int.mul_pos (show 0<evP G c-evP G b by omega) p1
 have:=Int.mul_pos q p2
 omega
theorem big {α:Type} (S:List α) (f:α→Int):∃ M:Int,0≤M∧∀ p∈S,f p<M:=by
 induction S with
 | nil=>exact ⟨0,by omega,fun p hp=>by cases hp⟩
 | cons x l ih =>
  obtain ⟨M,h0,h⟩:=ih
  refine ⟨max M (f x+1),by omega,fun p hp=>?_⟩
  rcases List.mem_cons.1 hp with rfl | hp
  ·omega
  ·have:=h p hp;omega
theorem ext_suc {S:List (Int×Int)} {a c:Int×Int} (ha:ExtP S a) (haS:a∈S) (hs:Suc S a c):ExtP S c:=by
 obtain ⟨G,g0,g1⟩:=ha
 obtain ⟨cS,ca,hall⟩:=hs
 obtain ⟨M,hM0,hM⟩:=big S (fun p=>evP G p-evP G c)
 refine ⟨(M*(-(c.2-a.2))-G.1,M*(c.1-a.1)-G.2.1,M*((c.2-a.2)*a.1-(c.1-a.1)*a.2)+evP G c-G.2.2),?_,fun p hp hpc=>?_⟩
 ·unfold evP;grind
 ·have e:evP (M*(-(c.2-a.2))-G.1,M*(c.1-a.1)-G.2.1,M*((c.2-a.2)*a.1-(c.1-a.1)*a.2)+evP G c-G.2.2) p=M*trn a c p+evP G c-evP G p:=by unfold evP trn;grind
  rw [e]
  have hMp:=hM p hp
  have hgc:=g1 c cS ca
  by_cases hpa:p=a
  ·subst hpa
   have:trn p c p=0:=by unfold trn;grind
   rw [this,g0];omega
  ·rcases hall p hp hpa with x | ⟨x,y⟩
   ·have:=Int.mul_le_mul_of_nonneg_left (show 1≤trn a c p by omega) hM0
    omega
   ·obtain ⟨m1,m2⟩:=seg g0 hgc (g1 p hp hpa) ca x y
    have:evP G p≠evP G c:=fun e=>hpc (m2 e)
    rw [x,Int.mul_zero];omega
theorem suc_inj {S:List (Int×Int)} {a b c:Int×Int} (ha:ExtP S a) (haS:a∈S) (hb:ExtP S b) (hbS:b∈S) (h1:Suc S a c) (h2:Suc S b c):a=b:=by
 refine Decidable.byContradiction fun hab=>?_
 have t1:0≤trn a c b:=by rcases h1.2.2 b hbS (fun e=>hab e.symm) with x | x<;>omega
 have t2:0≤trn b c a:=by rcases h2.2.2 a haS hab with x | x<;>omega
 have e:trn b c a=- trn a c b:=by unfold trn;grind
 exact no_mid ha haS h1 hb hbS (by omega) (fun e=>hab e.symm) (fun e=>h2.2.1 e.symm)
def nxS (a n p:Int×Int):Int×Int:=if p=a then n else if n=a∨trn a n p<0∨(trn a n p=0∧farD a n<farD a p) then p else n
def nxF (a:Int×Int) (l:List (Int×Int)):Int×Int:=l.foldl (nxS a) a
def NxtP (a:Int×Int) (l:List (Int×Int)) (n:Int×Int):Prop:=(n=a∧∀ p∈l,p=a)∨(n∈l∧n≠a∧∀ p∈l,p≠a→0<trn a n p∨(trn a n p=0∧farD a p≤farD a n))
theorem nxS_ok {S:List (Int×Int)} {a n x:Int×Int} (ha:ExtP S a) (l:List (Int×Int)) (hl:∀ p∈l,p∈S) (hx:x∈S) (ih:NxtP a l n):NxtP a (l++[x]) (nxS a n x):=by
 obtain ⟨G,g0,g1⟩:=ha
 unfold NxtP nxS at *
 by_cases hxa:x=a
 ·rw [if_pos hxa]
  rcases ih with ⟨i1,i2⟩ | ⟨i1,i2,i3⟩
  ·refine .inl ⟨i1,fun p hp=>?_⟩
   rcases List.mem_append.1 hp with h | h
   ·exact i2 p h
   ·rw [List.mem_singleton.1 h];exact hxa
  ·refine .inr ⟨by simp [i1],i2,fun p hp hpa=>?_⟩
   rcases List.mem_append.1 hp with h | h
   ·exact i3 p h hpa
   ·exact absurd ((List.mem_singleton.1 h).trans hxa) hpa
 ·rw [if_neg hxa]
  have self:trn a x x=0:=by unfold trn;grind
  rcases ih with ⟨i1,i2⟩ | ⟨i1,i2,i3⟩
  ·rw [if_pos (.inl i1)]
   refine .inr ⟨by simp,hxa,fun p hp hpa=>?_⟩
   rcases List.mem_append.1 hp with h | h
   ·exact absurd (i2 p h) hpa
   ·rw [List.mem_singleton.1 h];exact .inr ⟨self,Int.le_refl _⟩
  ·have gn:=g1 n (hl n (by simp [i1])) i2
   have gx:=g1 x hx hxa
   by_cases hc:n=a∨trn a n x<0∨(trn a n x=0∧farD a n<farD a x)
   ·rw [if_pos hc]
    refine .inr ⟨by simp,hxa,fun p hp hpa=>?_⟩
    rcases List.mem_append.1 hp with h | h
    ·have gp:=g1 p (hl p (by simp [h])) hpa
     have pl:=plu (G:=G) (w:=n) (u:=x) (v:=p) g0
     rcases hc with hc | hc | ⟨hc,hd⟩
     ·exact absurd hc i2
     ·left
      have q1:0≤evP G x*trn a n p:=Int.mul_nonneg (by omega) (by rcases i3 p h hpa with y | y<;>omega)
      have q2:evP G p*trn a n x<0:=Int.mul_neg_of_pos_of_neg gp hc
      exact Int.pos_of_mul_pos_right (a:=evP G n) (by rw [pl];omega) gn
     ·rw [hc,Int.mul_zero,Int.sub_zero] at pl
      rcases i3 p h hpa with y | ⟨y,z⟩
      ·left
       exact Int.pos_of_mul_pos_right (a:=evP G n) (by rw [pl];exact Int.mul_pos gx y) gn
      ·right
       rw [y,Int.mul_zero] at pl
       rcases Int.mul_eq_zero.1 pl with e | e
       ·omega
       ·exact ⟨e,by omega⟩
    ·rw [List.mem_singleton.1 h];exact .inr ⟨self,Int.le_refl _⟩
   ·rw [if_neg hc]
    refine .inr ⟨by simp [i1],i2,fun p hp hpa=>?_⟩
    rcases List.mem_append.1 hp with h | h
    ·exact i3 p h hpa
    ·rw [List.mem_singleton.1 h];omega
theorem nxF_inv {S:List (Int×Int)} {a:Int×Int} (ha:ExtP S a):∀ (l pre:List (Int×Int)) (n:Int×Int),(∀ p∈pre++l,p∈S)→NxtP a pre n→NxtP a (pre++l) (l.foldl (nxS a) n)
 | [],pre,n,h,hn=>by rw [List.append_nil];exact hn
 | x::l,pre,n,h,hn=>by
  have e:pre++x::l=(pre++[x])++l:=by simp
  rw [e,List.foldl_cons]
  refine nxF_inv ha l (pre++[x]) _ (fun p hp=>h p (by rw [e];exact hp)) (nxS_ok ha pre (fun p hp=>h p (by simp [hp])) (h x (by simp)) hn)
theorem ext_low {S:List (Int×Int)} {f:Int×Int} (h:∀ p∈S,f.2<p.2∨(f.2=p.2∧f.1≤p.1)):ExtP S f:=by
 obtain ⟨M,hM0,hM⟩:=big S (fun p=>f.1-p.1)
 refine ⟨(1,M,-(f.1+M*f.2)),by unfold evP;grind,fun p hp hpf=>?_⟩
 have e:evP (1,M,-(f.1+M*f.2)) p=(p.1-f.1)+M*(p.2-f.2):=by unfold evP;grind
 rw [e]
 have:=hM p hp
 rcases h p hp with x | ⟨x,y⟩
 ·have:=Int.mul_le_mul_of_nonneg_left (show 1≤p.2-f.2 by omega) hM0
  omega
 ·have:p.1≠f.1:=fun e=>hpf (Prod.ext e x.symm)
  rw [show p.2-f.2=0 by omega];omega
structure Chn (S l:List (Int×Int)):Prop where
 pos:0<l.length
 nd:l.Nodup
 mem:∀ i,i<l.length→l.getD i (0,0)∈S∧ExtP S (l.getD i (0,0))
 suc:∀ i,i+1<l.length→Suc S (l.getD i (0,0)) (l.getD (i+1) (0,0))
theorem getD_eq {l:List (Int×Int)} {i:Nat} (h:i<l.length):l.getD i (0,0)=l[i]:=by simp [List.getD,h]
theorem nd_getD {l:List (Int×Int)} (h:l.Nodup) {i j:Nat} (hi:i<l.length) (hj:j<l.length) (e:l.getD i (0,0)=l.getD j (0,0)):i=j:=by
 rw [getD_eq hi,getD_eq hj] at e
 exact (List.getElem_inj h).1 e
theorem mem_getD {l:List (Int×Int)} {x:Int×Int} (h:x∈l):∃ j,j<l.length∧x=l.getD j (0,0):=by
 obtain ⟨j,hj,e⟩:=List.getElem_of_mem h
 exact ⟨j,hj,by rw [getD_eq hj,e]⟩
theorem Chn.one {S:List (Int×Int)} {f:Int×Int} (hf:f∈S) (h:ExtP S f):Chn S [f]:=by
 refine ⟨Nat.zero_lt_one,by simp,fun i hi=>?_,fun i hi=>by simp at hi⟩
 rw [show i=0 by simpa using hi]
 exact ⟨hf,h⟩
theorem getD_app {l:List (Int×Int)} {c:Int×Int} (i:Nat) (h:i<l.length):(l++[c]).getD i (0,0)=l.getD i (0,0):=by
 rw [getD_eq (by simp;omega),getD_eq h,List.getElem_append_left h]
theorem getD_last {l:List (Int×Int)} {c:Int×Int}:(l++[c]).getD l.length (0,0)=c:=by
 rw [getD_eq (by simp)];simp
theorem Chn.app {S l:List (Int×Int)} {c:Int×Int} (h:Chn S l) (hs:Suc S (l.getD (l.length-1) (0,0)) c) (hc:c≠l.getD 0 (0,0)):Chn S (l++[c]):=by
 have hp:=h.pos
 have hm:=h.mem (l.length-1) (by omega)
 have hnot:c∉l:=fun hcl=>by
  obtain ⟨j,hj,e⟩:=mem_getD hcl
  match j with
  | 0=>exact hc e
  | j+1 =>
   have h1:=h.suc j hj
   rw [← e] at h1
   have hmj:=h.mem j (by omega)
   have:=nd_getD h.nd (by omega) (by omega) (suc_inj hmj.2 hmj.1 hm.2 hm.1 h1 hs)
   omega
 refine ⟨by simp,?_,fun i hi=>?_,fun i hi=>?_⟩
 ·rw [List.nodup_append]
  refine ⟨h.nd,by simp,fun a ha b hb e=>?_⟩
  rw [List.mem_singleton.1 hb] at e
  exact hnot (e▸ha)
 ·rw [List.length_append,List.length_singleton] at hi
  by_cases e:i<l.length
  ·rw [getD_app i e];exact h.mem i e
  ·rw [show i=l.length by omega,getD_last];exact ⟨hs.1,ext_suc hm.2 hm.1 hs⟩
 ·rw [List.length_append,List.length_singleton] at hi
  rw [getD_app i (by omega)]
  by_cases e:i+1<l.length
  ·rw [getD_app _ e];exact h.suc i e
  ·rw [show i+1=l.length by omega,getD_last,show i=l.length-1 by omega];exact hs
theorem Chn.len {S l:List (Int×Int)} (h:Chn S l):l.length≤S.length :=
 List.Nodup.length_le_of_subset h.nd (fun x hx=>by obtain ⟨j,hj,e⟩:=mem_getD hx;rw [e];exact (h.mem j hj).1)
def Cvx (l:List (Int×Int)):Prop:=∀ i k,i<l.length→k<l.length→k≠i→k≠(i+1) % l.length→0<trn (l.getD i (0,0)) (l.getD ((i+1) % l.length) (0,0)) (l.getD k (0,0))
theorem Chn.cvx {S l:List (Int×Int)} (h:Chn S l) (hc:Suc S (l.getD (l.length-1) (0,0)) (l.getD 0 (0,0))):Cvx l:=by
 intro i k hi hk h1 h2
 have hmi:=h.mem i hi
 have hmk:=h.mem k hk
 have hl:(i+1) % l.length<l.length:=Nat.mod_lt _ (by omega)
 have hs:Suc S (l.getD i (0,0)) (l.getD ((i+1) % l.length) (0,0)):=by
  by_cases e:i+1<l.length
  ·rw [Nat.mod_eq_of_lt e];exact h.suc i e
  ·rw [show i+1=l.length by omega,Nat.mod_self,show i=l.length-1 by omega];exact hc
 have n1:l.getD k (0,0)≠l.getD i (0,0):=fun e=>h1 (nd_getD h.nd hk hi e)
 have n2:l.getD k (0,0)≠l.getD ((i+1) % l.length) (0,0):=fun e=>h2 (nd_getD h.nd hk hl e)
 rcases hs.2.2 _ hmk.1 n1 with x | x
 ·exact x
 ·exact (no_mid hmi.2 hmi.1 hs hmk.2 hmk.1 x.1 n1 n2).elim
end Go.Proofs.YtdgabicjcepmeaaGreatDoor
namespace Go.Proofs.YtdgabicjcepmeaaGreatDoor
abbrev Spt:=Int×Int×Int
def lev (L:Spt) (s:Spt):Int:=L.1*s.1+L.2.1*s.2.1+L.2.2*s.2.2
structure Mix (s t c:Spt):Prop where
 ex:∃ k p q:Int,0<k∧0<p∧0<q∧k*c.1=p*s.1+q*t.1∧k*c.2.1=p*s.2.1+q*t.2.1∧k*c.2.2=p*s.2.2+q*t.2.2
 red:Int.gcd (Int.gcd c.1 c.2.1) c.2.2=1
theorem Mix.at {s t c:Spt} (h:Mix s t c) (F:Spt):∃ k p q:Int,0<k∧0<p∧0<q∧k*lev F c=p*lev F s+q*lev F t:=by
 obtain ⟨k,p,q,hk,hp,hq,e1,e2,e3⟩:=h.ex
 refine ⟨k,p,q,hk,hp,hq,?_⟩
 unfold lev
 grind
theorem Mix.nn {s t c:Spt} (h:Mix s t c) (F:Spt) (h1:0≤lev F s) (h2:0≤lev F t):0≤lev F c:=by
 obtain ⟨k,p,q,hk,hp,hq,e⟩:=h.at F
 have a:=Int.mul_nonneg (show 0≤p by omega) h1
 have b:=Int.mul_nonneg (show 0≤q by omega) h2
 exact Int.nonneg_of_mul_nonneg_right (a:=k) (by rw [e];omega) hk
theorem Mix.zero {s t c:Spt} (h:Mix s t c) (F:Spt) (h1:lev F s=0) (h2:lev F t=0):lev F c=0:=by
 obtain ⟨k,p,q,hk,hp,hq,e⟩:=h.at F
 rw [h1,h2,Int.mul_zero,Int.mul_zero] at e
 rcases Int.mul_eq_zero.1 (e.trans rfl) with x | x
 ·omega
 ·exact x
def Eg (s t:Spt):Prop:=∃ e:Spt,e.1.natAbs≤6∧e.2.1.natAbs≤6∧¬ (e.1=0∧e.2.1=0)∧lev e s=0∧lev e t=0
theorem dvd_det {x y d m:Int} (hr:Int.gcd (Int.gcd x y) d=1) (h1:d ∣ m*x) (h2:d ∣ m*y):d ∣ m:=by
 have h3:d ∣ m*(Int.gcd x y:Int):=by
  have:=Int.dvd_coe_gcd h1 h2
  rw [Int.gcd_mul_left,Int.natCast_mul] at this
  have h4:d ∣ (m.natAbs:Int)*(Int.gcd x y:Int):=this
  rcases Int.natAbs_eq m with e | e
  ·rw [e];exact h4
  ·rw [e,Int.neg_mul];exact Int.dvd_neg.2 h4
 have h5:=Int.dvd_coe_gcd h3 (Int.dvd_mul_left m d)
 rw [Int.gcd_mul_left,hr,Nat.mul_one] at h5
 exact Int.dvd_natAbs.1 h5
theorem small_d {s c e L:Spt} (h1:e.1.natAbs≤6) (h2:e.2.1.natAbs≤6) (h0:¬ (e.1=0∧e.2.1=0)) (l1:L.1.natAbs≤1) (l2:L.2.1.natAbs≤1) (es:lev e s=0) (ec:lev e c=0) (Lc:lev L c=0) (Ls:lev L s≠0) (hd:0<c.2.2)
  (hr:Int.gcd (Int.gcd c.1 c.2.1) c.2.2=1):c.2.2≤12:=by
 obtain ⟨a,b,g⟩:=e
 obtain ⟨a',b',g'⟩:=L
 obtain ⟨x,y,d⟩:=c
 obtain ⟨sx,sy,sd⟩:=s
 unfold lev at *
 dsimp only at *
 have k1:(a*b'-a'*b)*x=d*(b*g'-b'*g):=by grind
 have k2:(a*b'-a'*b)*y=d*(g*a'-g'*a):=by grind
 have hdv:d ∣ a*b'-a'*b:=dvd_det hr ⟨_,k1⟩ ⟨_,k2⟩
 have hm1:(a*b').natAbs≤6:=by rw [Int.natAbs_mul];exact Nat.le_trans (Nat.mul_le_mul h1 l2) (by omega)
 have hm2:(a'*b).natAbs≤6:=by rw [Int.natAbs_mul];exact Nat.le_trans (Nat.mul_le_mul l1 h2) (by omega)
 by_cases hz:a*b'-a'*b=0
 ·exfalso
  rw [hz,Int.zero_mul] at k1 k2
  have z1:b*g'-b'*g=0:=by rcases Int.mul_eq_zero.1 k1.symm with q | q<;>omega
  have z2:g*a'-g'*a=0:=by rcases Int.mul_eq_zero.1 k2.symm with q | q<;>omega
  have m1:a*(a'*sx+b'*sy+g'*sd)=0:=by grind
  have m2:b*(a'*sx+b'*sy+g'*sd)=0:=by grind
  refine h0 ⟨?_,?_⟩
  ·rcases Int.mul_eq_zero.1 m1 with q | q
   ·exact q
   ·exact absurd q Ls
  ·rcases Int.mul_eq_zero.1 m2 with q | q
   ·exact q
   ·exact absurd q Ls
 ·have:=Int.le_of_dvd (show 0<((a*b'-a'*b).natAbs:Int) by omega) (Int.dvd_natAbs.2 hdv)
  omega
def adS (l:List Spt) (s:Spt):List Spt:=if l.getLast? = some s then l else l++[s]
def redS (s:Spt):Spt:=let k:Int:=if s.2.2<0 then -(Int.gcd (Int.gcd s.1 s.2.1) s.2.2:Int) else Int.gcd (Int.gcd s.1 s.2.1) s.2.2;(s.1 / k,s.2.1 / k,s.2.2 / k)
def crS (h t:Int) (s n:Spt):Spt:=redS (s.1*t-n.1*h,s.2.1*t-n.2.1*h,s.2.2*t-n.2.2*h)
theorem redS_ok {s:Spt} (h:s.2.2≠0):∃ k:Int,(0<k↔0<s.2.2)∧k≠0∧k*(redS s).1=s.1∧k*(redS s).2.1=s.2.1∧k*(redS s).2.2=s.2.2∧Int.gcd (Int.gcd (redS s).1 (redS s).2.1) (redS s).2.2=1:=by
 have hg:Int.gcd (Int.gcd s.1 s.2.1) s.2.2≠0:=fun e=>h (Int.gcd_eq_zero_iff.1 e).2
 obtain ⟨k,hk⟩:∃ k:Int,k=if s.2.2<0 then -(Int.gcd (Int.gcd s.1 s.2.1) s.2.2:Int) else Int.gcd (Int.gcd s.1 s.2.1) s.2.2:=⟨_,rfl⟩
 have hka:k.natAbs=Int.gcd (Int.gcd s.1 s.2.1) s.2.2:=by rw [hk];split<;>omega
 have hk0:k≠0:=by omega
 have d3:k ∣ s.2.2:=by rw [← Int.natAbs_dvd,hka];exact Int.gcd_dvd_right _ _
 have d12:k ∣ (Int.gcd s.1 s.2.1:Int):=by rw [← Int.natAbs_dvd,hka];exact Int.gcd_dvd_left _ _
 have d1:k ∣ s.1:=Int.dvd_trans d12 (Int.gcd_dvd_left _ _)
 have d2:k ∣ s.2.1:=Int.dvd_trans d12 (Int.gcd_dvd_right _ _)
 have e1:=Int.mul_ediv_cancel' d1
 have e2:=Int.mul_ediv_cancel' d2
 have e3:=Int.mul_ediv_cancel' d3
 have er:redS s=(s.1 / k,s.2.1 / k,s.2.2 / k):=by unfold redS;dsimp only;rw [← hk]
 rw [er]
 refine ⟨k,?_,hk0,e1,e2,e3,?_⟩
 ·rw [hk];split<;>omega
 ·dsimp only
  have:=hka
  conv at this=>rhs;rw [← e1,← e2,← e3]
  rw [Int.gcd_mul_left] at this
  have h2:Int.gcd ((k.natAbs*Int.gcd (s.1 / k) (s.2.1 / k):Nat):Int) (k*(s.2.2 / k))=k.natAbs*Int.gcd (Int.gcd (s.1 / k) (s.2.1 / k)) (s.2.2 / k):=by
   have:((k.natAbs*Int.gcd (s.1 / k) (s.2.1 / k):Nat):Int).gcd (k*(s.2.2 / k))=Int.gcd (k*(Int.gcd (s.1 / k) (s.2.1 / k):Int)) (k*(s.2.2 / k)):=by
    have e:Int.natAbs ((k.natAbs*Int.gcd (s.1 / k) (s.2.1 / k):Nat):Int)=Int.natAbs (k*(Int.gcd (s.1 / k) (s.2.1 / k):Int)):=by rw [Int.natAbs_natCast,Int.natAbs_mul,Int.natAbs_natCast]
    show Nat.gcd _ _=Nat.gcd _ _
    rw [e]
   rw [this,Int.gcd_mul_left]
  rw [h2] at this
  have hp:0<k.natAbs:=by omega
  exact (Nat.eq_of_mul_eq_mul_left hp (by rw [← this,Nat.mul_one])).symm
theorem crS_mix {h t:Int} {s n:Spt} (hd:0<s.2.2) (hd2:0<n.2.2) (hh:(0<h∧t<0)∨(h<0∧0<t)):Mix s n (crS h t s n):=by
 rcases hh with ⟨h1,h2⟩ | ⟨h1,h2⟩
 ·have hn:s.2.2*t-n.2.2*h<0:=by
   have:=Int.mul_neg_of_pos_of_neg hd h2
   have:=Int.mul_pos hd2 h1
   omega
  obtain ⟨k,k1,k2,e1,e2,e3,er⟩:=redS_ok (s:=(s.1*t-n.1*h,s.2.1*t-n.2.1*h,s.2.2*t-n.2.2*h)) (by dsimp only;omega)
  refine ⟨⟨-k,-t,h,?_,by omega,by omega,?_,?_,?_⟩,er⟩
  ·dsimp only at k1;omega
  all_goals
   unfold crS
   dsimp only at e1 e2 e3
   grind
 ·have hn:0<s.2.2*t-n.2.2*h:=by
   have:=Int.mul_pos hd h2
   have:=Int.mul_neg_of_pos_of_neg hd2 h1
   omega
  obtain ⟨k,k1,k2,e1,e2,e3,er⟩:=redS_ok (s:=(s.1*t-n.1*h,s.2.1*t-n.2.1*h,s.2.2*t-n.2.2*h)) (by dsimp only;omega)
  refine ⟨⟨k,t,-h,?_,by omega,by omega,?_,?_,?_⟩,er⟩
  ·dsimp only at k1;omega
  all_goals
   unfold crS
   dsimp only at e1 e2 e3
   grind
theorem crS_on {s n:Spt} (L:Spt) (hd:0<s.2.2) (hd2:0<n.2.2) (hh:(0<lev L s∧lev L n<0)∨(lev L s<0∧0<lev L n)):lev L (crS (lev L s) (lev L n) s n)=0:=by
 have hn:s.2.2*lev L n-n.2.2*lev L s≠0:=by
  rcases hh with ⟨h1,h2⟩ | ⟨h1,h2⟩
  ·have:=Int.mul_neg_of_pos_of_neg hd h2
   have:=Int.mul_pos hd2 h1
   omega
  ·have:=Int.mul_pos hd h2
   have:=Int.mul_neg_of_pos_of_neg hd2 h1
   omega
 obtain ⟨k,k1,k2,e1,e2,e3,er⟩:=redS_ok (s:=(s.1*lev L n-n.1*lev L s,s.2.1*lev L n-n.2.1*lev L s,s.2.2*lev L n-n.2.2*lev L s)) hn
 have:k*lev L (crS (lev L s) (lev L n) s n)=0:=by
  unfold crS
  generalize redS _=c at *
  dsimp only at e1 e2 e3
  have ex:k*lev L c=L.1*(k*c.1)+L.2.1*(k*c.2.1)+L.2.2*(k*c.2.2):=by unfold lev;grind
  rw [ex,e1,e2,e3]
  unfold lev
  grind
 rcases Int.mul_eq_zero.1 this with q | q
 ·exact absurd q k2
 ·exact q

abbrev z3:Spt:=(0,0,0)
def clS (L:Spt) (o:List Spt) (s n:Spt):List Spt :=
 let o2:=if 0≤lev L s then adS o s else o
 if (0<lev L s∧lev L n<0)∨(lev L s<0∧0<lev L n) then adS o2 (crS (lev L s) (lev L n) s n) else o2
def clN (L:Spt) (l:List Spt):Nat→List Spt
 | 0=>[]
 | k+1=>clS L (clN L l k) (l.getD k z3) (l.getD ((k+1) % l.length) z3)
def clR (L:Spt) (l:List Spt):List Spt:=clN L l l.length
theorem adS_cases (l:List Spt) (s:Spt):(l.getLast? = some s∧adS l s=l)∨(l.getLast? ≠ some s∧adS l s=l++[s]):=by
 unfold adS
 by_cases h:l.getLast? = some s
 ·exact .inl ⟨h,if_pos h⟩
 ·exact .inr ⟨h,if_neg h⟩
theorem adS_mem {l:List Spt} {s x:Spt} (h:x∈adS l s):x∈l∨x=s:=by
 rcases adS_cases l s with ⟨_,e⟩ | ⟨_,e⟩
 ·rw [e] at h;exact .inl h
 ·rw [e,List.mem_append,List.mem_singleton] at h;exact h
theorem adS_len (l:List Spt) (s:Spt):(adS l s).length≤l.length+1:=by
 rcases adS_cases l s with ⟨_,e⟩ | ⟨_,e⟩
 ·rw [e];omega
 ·rw [e,List.length_append];exact Nat.le_refl _
theorem adS_last (l:List Spt) (s:Spt):(adS l s).getLast? = some s:=by
 rcases adS_cases l s with ⟨h,e⟩ | ⟨_,e⟩
 ·rw [e,h]
 ·rw [e];simp
theorem adS_head (l:List Spt) (s:Spt):(adS l s).head? = if l=[] then some s else l.head? := by
 rcases adS_cases l s with ⟨h,e⟩ | ⟨_,e⟩
 ·rw [e,if_neg (fun e=>by rw [e] at h;cases h)]
 ·rw [e]
  cases l with
  | nil=>rfl
  | cons x l=>rfl
theorem getD_mem3 {l:List Spt} {k:Nat} (h:k<l.length):l.getD k z3∈l:=by simp [List.getD,h]
theorem clS_all {Q:Spt→Prop} (L:Spt) {o:List Spt} {s n:Spt} (hQ:∀ s t c,Q s→Q t→Mix s t c→Q c) (hp:∀ x,Q x→0<x.2.2) (ho:∀ x∈o,Q x) (hs:Q s) (hn:Q n):∀ x∈clS L o s n,Q x:=by
 have h2:∀ x∈(if 0≤lev L s then adS o s else o),Q x:=fun x hx=>by
  split at hx
  ·rcases adS_mem hx with h | h
   ·exact ho x h
   ·rw [h];exact hs
  ·exact ho x hx
 intro x hx
 unfold clS at hx
 dsimp only at hx
 split at hx
 ·rename_i hc
  rcases adS_mem hx with h | h
  ·exact h2 x h
  ·rw [h];exact hQ s n _ hs hn (crS_mix (hp s hs) (hp n hn) hc)
 ·exact h2 x hx
theorem clN_all {Q:Spt→Prop} (L:Spt) {l:List Spt} (hQ:∀ s t c,Q s→Q t→Mix s t c→Q c) (hp:∀ x,Q x→0<x.2.2) (hl:∀ x∈l,Q x):∀ k,k≤l.length→∀ x∈clN L l k,Q x
 | 0,_,x,hx=>by cases hx
 | k+1,h,x,hx=>clS_all L hQ hp (clN_all L hQ hp hl k (by omega)) (hl _ (getD_mem3 (by omega))) (hl _ (getD_mem3 (Nat.mod_lt _ (by omega)))) x hx
theorem clS_len (L:Spt) (o:List Spt) (s n:Spt):(clS L o s n).length≤o.length+2:=by
 unfold clS
 dsimp only
 have h2:(if 0≤lev L s then adS o s else o).length≤o.length+1:=by
  split
  ·exact adS_len _ _
  ·omega
 split
 ·exact Nat.le_trans (adS_len _ _) (by omega)
 ·omega
theorem clN_len (L:Spt) (l:List Spt):∀ k,(clN L l k).length≤2*k
 | 0=>Nat.le_refl _
 | k+1=>by
  have:=clN_len L l k
  exact Nat.le_trans (clS_len L _ _ _) (by omega)
theorem clN_left (L:Spt) {l:List Spt} (hl:∀ x∈l,0<x.2.2):∀ k,k≤l.length→∀ x∈clN L l k,0≤lev L x
 | 0,_,x,hx=>by cases hx
 | k+1,h,x,hx=>by
  have ih:=clN_left L hl k (by omega)
  have d1:=hl _ (getD_mem3 (show k<l.length by omega))
  have d2:=hl _ (getD_mem3 (show (k+1) % l.length<l.length from Nat.mod_lt _ (by omega)))
  unfold clN clS at hx
  dsimp only at hx
  have h2:∀ x∈(if 0≤lev L (l.getD k z3) then adS (clN L l k) (l.getD k z3) else clN L l k),0≤lev L x:=fun x hx=>by
   split at hx
   ·rename_i hs
    rcases adS_mem hx with h | h
    ·exact ih x h
    ·rw [h];exact hs
   ·exact ih x hx
  split at hx
  ·rename_i hc
   rcases adS_mem hx with h | h
   ·exact h2 x h
   ·rw [h,crS_on L d1 d2 hc];exact Int.le_refl _
  ·exact h2 x hx
inductive Ach:List Spt→Prop
 | nil:Ach []
 | app {l:List Spt} {s:Spt} (h:Ach l) (e:∀ z,l.getLast? = some z→Eg z s):Ach (l++[s])
theorem Ach.adS {l:List Spt} {s:Spt} (h:Ach l) (e:∀ z,l.getLast? = some z→Eg z s):Ach (adS l s):=by
 rcases adS_cases l s with ⟨_,q⟩ | ⟨_,q⟩
 ·rw [q];exact h
 ·rw [q];exact .app h e
theorem getD_app3 {l:List Spt} {c:Spt} {i:Nat} (h:i<l.length):(l++[c]).getD i z3=l.getD i z3:=by
 simp [List.getD,List.getElem?_append_left h]
theorem getD_last3 {l:List Spt} (h:0<l.length):l.getLast? = some (l.getD (l.length-1) z3):=by
 rw [List.getLast?_eq_getElem?]
 have:l.length-1<l.length:=by omega
 simp [List.getD,this]
theorem Ach.get {l:List Spt} (h:Ach l):∀ i,i+1<l.length→Eg (l.getD i z3) (l.getD (i+1) z3):=by
 induction h with
 | nil=>intro i hi;simp at hi
 | @app l s h e ih =>
  intro i hi
  rw [List.length_append,List.length_singleton] at hi
  rw [getD_app3 (by omega)]
  by_cases hx:i+1<l.length
  ·rw [getD_app3 hx];exact ih i hx
  ·have e1:(l++[s]).getD (i+1) z3=s:=by
    rw [show i+1=l.length by omega];simp [List.getD]
   rw [e1]
   refine e _ ?_
   rw [getD_last3 (by omega),show l.length-1=i by omega]
def Rel (L z s:Spt):Prop:=if lev L s<0 then lev L z=0 else Eg z s
structure Poly (l:List Spt):Prop where
 d0:∀ x∈l,0<x.2.2
 d12:∀ x∈l,x.2.2≤12
 eg:∀ i,i<l.length→Eg (l.getD i z3) (l.getD ((i+1) % l.length) z3)
theorem eg_line {L s t:Spt} (l1:L.1.natAbs≤1) (l2:L.2.1.natAbs≤1) (l0:¬ (L.1=0∧L.2.1=0)) (h1:lev L s=0) (h2:lev L t=0):Eg s t:=⟨L,by omega,by omega,l0,h1,h2⟩
theorem Eg.mix {s t c:Spt} (h:Eg s t) (hm:Mix s t c):Eg s c∧Eg c t:=by
 obtain ⟨e,a,b,z,h1,h2⟩:=h
 have:=hm.zero e h1 h2
 exact ⟨⟨e,a,b,z,h1,this⟩,⟨e,a,b,z,this,h2⟩⟩
structure Inv (L s0:Spt) (k:Nat) (o:List Spt) (s:Spt):Prop where
 d:∀ x∈o,x.2.2≤12
 a:Ach o
 r:∀ z,o.getLast? = some z→Rel L z s
 e:o=[]→k=0∨lev L s≤0
 z:k=0→o=[]∧s=s0
 p:0≤lev L s0→0<k→o.head? = some s0
 n:lev L s0<0→∀ f,o.head? = some f→lev L f=0
theorem adS_ne (l:List Spt) (s:Spt):adS l s≠[]:=fun e=>by
 have:=adS_last l s
 rw [e] at this
 cases this
theorem inv_step {L s0 s n:Spt} {k:Nat} {o:List Spt} (l1:L.1.natAbs≤1) (l2:L.2.1.natAbs≤1) (l0:¬ (L.1=0∧L.2.1=0)) (h:Inv L s0 k o s) (hd1:0<s.2.2) (hd2:0<n.2.2) (hc:s.2.2≤12) (eg:Eg s n):Inv L s0 (k+1) (clS L o s n) n:=by
 obtain ⟨o2,ho2⟩:∃ o2,o2=if 0≤lev L s then adS o s else o:=⟨_,rfl⟩
 have A:(∀ x∈o2,x.2.2≤12)∧Ach o2∧(0≤lev L s→o2.getLast? = some s)∧(lev L s<0→∀ z,o2.getLast? = some z→lev L z=0)∧(0≤lev L s0→o2.head? = some s0)∧(lev L s0<0→∀ f,o2.head? = some f→lev L f=0):=by
  by_cases hs:0≤lev L s
  ·rw [if_pos hs] at ho2
   subst ho2
   refine ⟨fun x hx=>?_,h.a.adS fun z hz=>?_,fun _=>adS_last o s,fun q=>by omega,fun q=>?_,fun q f hf=>?_⟩
   ·rcases adS_mem hx with q | q
    ·exact h.d x q
    ·rw [q];exact hc
   ·have:=h.r z hz
    unfold Rel at this
    rwa [if_neg (by omega)] at this
   ·rw [adS_head]
    by_cases k0:k=0
    ·obtain ⟨z1,z2⟩:=h.z k0
     rw [if_pos z1,z2]
    ·have:=h.p q (by omega)
     rw [if_neg (fun e=>by rw [e] at this;cases this),this]
   ·rw [adS_head] at hf
    by_cases ho:o=[]
    ·rw [if_pos ho] at hf
     have e:s=f:=Option.some.inj hf
     rcases h.e ho with k0 | k0
     ·have:=(h.z k0).2
      rw [this] at hs
      omega
     ·rw [← e];omega
    ·rw [if_neg ho] at hf
     exact h.n q f hf
  ·rw [if_neg hs] at ho2
   subst ho2
   refine ⟨h.d,h.a,fun q=>absurd q hs,fun _ z hz=>?_,fun q=>?_,h.n⟩
   ·have:=h.r z hz
    unfold Rel at this
    rwa [if_pos (by omega)] at this
   ·refine h.p q ?_
    by_cases k0:k=0
    ·have:=(h.z k0).2
     rw [this] at hs
     omega
    ·omega
 obtain ⟨A1,A2,A3,A4,A5,A6⟩:=A
 have e1:clS L o s n=if (0<lev L s∧lev L n<0)∨(lev L s<0∧0<lev L n) then adS o2 (crS (lev L s) (lev L n) s n) else o2:=by unfold clS;dsimp only;rw [← ho2]
 rw [e1]
 by_cases hx:(0<lev L s∧lev L n<0)∨(lev L s<0∧0<lev L n)
 ·rw [if_pos hx]
  have hm:=crS_mix hd1 hd2 hx
  have hon:=crS_on L hd1 hd2 hx
  generalize crS (lev L s) (lev L n) s n=c at *
  obtain ⟨g1,g2⟩:=eg.mix hm
  have hc12:c.2.2≤12:=by
   obtain ⟨e,a,b,zz,h1,h2⟩:=g1
   have hk0:0<c.2.2:=by
    obtain ⟨kk,p,q,hk,hp,hq,_,_,e3⟩:=hm.ex
    have x1:=Int.mul_pos hp hd1
    have x2:=Int.mul_pos hq hd2
    exact Int.pos_of_mul_pos_right (a:=kk) (by rw [e3];omega) hk
   exact small_d a b zz l1 l2 h1 h2 hon (by rcases hx with q | q<;>omega) hk0 hm.red
  refine ⟨fun x hx2=>?_,A2.adS fun z hz=>?_,fun z hz=>?_,fun e=>absurd e (adS_ne _ _),fun e=>by omega,fun q _=>?_,fun q f hf=>?_⟩
  ·rcases adS_mem hx2 with q | q
   ·exact A1 x q
   ·rw [q];exact hc12
  ·rcases hx with q | q
   ·have:=A3 (by omega)
    rw [this] at hz
    rw [← Option.some.inj hz];exact g1
   ·exact eg_line l1 l2 l0 (A4 q.1 z hz) hon
  ·rw [adS_last] at hz
   rw [← Option.some.inj hz]
   unfold Rel
   split
   ·exact hon
   ·exact g2
  ·have:=A5 q
   rw [adS_head,if_neg (fun e=>by rw [e] at this;cases this),this]
  ·rw [adS_head] at hf
   by_cases ho:o2=[]
   ·rw [if_pos ho] at hf
    rw [← Option.some.inj hf];exact hon
   ·rw [if_neg ho] at hf
    exact A6 q f hf
 ·rw [if_neg hx]
  refine ⟨A1,A2,fun z hz=>?_,fun e=>?_,fun e=>by omega,fun q _=>A5 q,A6⟩
  ·unfold Rel
   by_cases hs:0≤lev L s
   ·have:=A3 hs
    rw [this] at hz
    rw [← Option.some.inj hz]
    split
    ·omega
    ·exact eg
   ·have:=A4 (by omega) z hz
    split
    ·exact this
    ·exact eg_line l1 l2 l0 this (by omega)
  ·by_cases hs:0≤lev L s
   ·have:=A3 hs
    rw [e] at this
    cases this
   ·right;omega
theorem clN_inv {L:Spt} {l:List Spt} (l1:L.1.natAbs≤1) (l2:L.2.1.natAbs≤1) (l0:¬ (L.1=0∧L.2.1=0)) (h:Poly l):∀ k,k≤l.length→Inv L (l.getD 0 z3) k (clN L l k) (l.getD (k % l.length) z3)
 | 0,_=>⟨fun x hx=>(by cases hx),Ach.nil,fun z hz=>(by cases hz),fun _=>Or.inl rfl,fun _=>⟨rfl,(by rw [Nat.zero_mod])⟩,fun _ h=>absurd h (by omega),fun _ f hf=>(by cases hf)⟩
 | k+1,hk=>by
  have ih:=clN_inv l1 l2 l0 h k (by omega)
  have hkl:k<l.length:=by omega
  have hnl:(k+1) % l.length<l.length:=Nat.mod_lt _ (by omega)
  rw [Nat.mod_eq_of_lt hkl] at ih
  exact inv_step l1 l2 l0 ih (h.d0 _ (getD_mem3 hkl)) (h.d0 _ (getD_mem3 hnl)) (h.d12 _ (getD_mem3 hkl)) (h.eg k hkl)
theorem mix_d {s t c:Spt} (h1:0<s.2.2) (h2:0<t.2.2) (hm:Mix s t c):0<c.2.2:=by
 obtain ⟨kk,p,q,hk,hp,hq,_,_,e3⟩:=hm.ex
 have x1:=Int.mul_pos hp h1
 have x2:=Int.mul_pos hq h2
 exact Int.pos_of_mul_pos_right (a:=kk) (by rw [e3];omega) hk
theorem clR_poly {L:Spt} {l:List Spt} (l1:L.1.natAbs≤1) (l2:L.2.1.natAbs≤1) (l0:¬ (L.1=0∧L.2.1=0)) (h:Poly l):Poly (clR L l):=by
 have hI:=clN_inv l1 l2 l0 h l.length (Nat.le_refl _)
 have hd:=clN_all (Q:=fun x=>0<x.2.2) L (fun s t c h1 h2 hm=>mix_d h1 h2 hm) (fun x hx=>hx) h.d0 l.length (Nat.le_refl _)
 unfold clR
 rw [Nat.mod_self] at hI
 refine ⟨hd,hI.d,fun i hi=>?_⟩
 by_cases e:i+1<(clN L l l.length).length
 ·rw [Nat.mod_eq_of_lt e];exact hI.a.get i e
 ·rw [show i+1=(clN L l l.length).length by omega,Nat.mod_self,show i=(clN L l l.length).length-1 by omega]
  have hl:=getD_last3 (show 0<(clN L l l.length).length by omega)
  have hr:=hI.r _ hl
  have hl0:l.length≠0:=fun e=>by
   rw [e] at hi
   exact absurd hi (by unfold clN;simp)
  have hh:(clN L l l.length).head? = some ((clN L l l.length).getD 0 z3):=by
   generalize clN L l l.length=o at *
   cases o with
   | nil=>simp at hi
   | cons x o=>rfl
  unfold Rel at hr
  by_cases hs:lev L (l.getD 0 z3)<0
  ·rw [if_pos hs] at hr
   exact eg_line l1 l2 l0 hr (hI.n hs _ hh)
  ·rw [if_neg hs] at hr
   have:=hI.p (by omega) (by omega)
   rw [hh] at this
   rw [Option.some.inj this];exact hr
end Go.Proofs.YtdgabicjcepmeaaGreatDoor
namespace Go.Proofs.YtdgabicjcepmeaaGreatDoor
def dt3 (p q r:Spt):Int:=p.1*(q.2.1*r.2.2-q.2.2*r.2.1)-p.2.1*(q.1*r.2.2-q.2.2*r.1)+p.2.2*(q.1*r.2.1-q.2.1*r.1)
theorem dt3_self1 (p r:Spt):dt3 p p r=0:=by unfold dt3;grind
theorem dt3_self2 (p r:Spt):dt3 p r r=0:=by unfold dt3;grind
theorem dt3_self3 (p r:Spt):dt3 p r p=0:=by unfold dt3;grind
theorem dt3_rot (p q r:Spt):dt3 p q r=dt3 r p q:=by unfold dt3;grind
theorem dt3_mix3 {s t c:Spt} (h:Mix s t c) (x y:Spt) (h1:0≤dt3 x y s) (h2:0≤dt3 x y t):0≤dt3 x y c:=by
 have e:∀ z,dt3 x y z=lev (x.2.1*y.2.2-x.2.2*y.2.1,x.2.2*y.1-x.1*y.2.2,x.1*y.2.1-x.2.1*y.1) z:=fun z=>by unfold dt3 lev;grind
 rw [e] at h1 h2 ⊢
 exact h.nn _ h1 h2
theorem dt3_mix1 {s t c:Spt} (h:Mix s t c) (x y:Spt) (h1:0≤dt3 s x y) (h2:0≤dt3 t x y):0≤dt3 c x y:=by
 rw [← dt3_rot] at *
 exact dt3_mix3 h x y h1 h2
theorem dt3_mix2 {s t c:Spt} (h:Mix s t c) (x y:Spt) (h1:0≤dt3 x s y) (h2:0≤dt3 x t y):0≤dt3 x c y:=by
 rw [dt3_rot] at *
 exact dt3_mix3 h y x h1 h2
inductive Tr:List Spt→Prop
 | nil:Tr []
 | app {o:List Spt} {s:Spt} (h:Tr o) (e:o.Pairwise fun x y=>0≤dt3 x y s):Tr (o++[s])
theorem Tr.get {o:List Spt} (h:Tr o):∀ i j k,i<j→j<k→k<o.length→0≤dt3 (o.getD i z3) (o.getD j z3) (o.getD k z3):=by
 induction h with
 | nil=>intro i j k _ _ h;simp at h
 | @app o s h e ih =>
  intro i j k hij hjk hk
  rw [List.length_append,List.length_singleton] at hk
  rw [getD_app3 (show i<o.length by omega),getD_app3 (show j<o.length by omega)]
  by_cases hx:k<o.length
  ·rw [getD_app3 hx];exact ih i j k hij hjk hx
  ·have e1:(o++[s]).getD k z3=s:=by
    rw [show k=o.length by omega];simp [List.getD]
   rw [e1]
   have:=List.pairwise_iff_getElem.1 e i j (by omega) (by omega) hij
   have hi:o.getD i z3=o[i]'(by omega):=by simp [List.getD,show i<o.length by omega]
   have hj:o.getD j z3=o[j]'(by omega):=by simp [List.getD,show j<o.length by omega]
   rw [hi,hj];exact this
structure Cv (v:Nat→Spt) (n k:Nat) (o:List Spt):Prop where
 t1:Tr o
 t2:∀ m,k≤m→m≤n→o.Pairwise fun x y=>0≤dt3 x y (v m)
 t3:∀ x∈o,∀ a b,k≤a→a≤b→b≤n→0≤dt3 x (v a) (v b)
 t4:∀ a b c,k≤a→a≤b→b≤c→c≤n→0≤dt3 (v a) (v b) (v c)
theorem pw_app {o:List Spt} {s:Spt} {R:Spt→Spt→Prop} (h:o.Pairwise R) (hs:∀ x∈o,R x s):(o++[s]).Pairwise R:=by
 rw [List.pairwise_append]
 refine ⟨h,by simp,fun a ha b hb=>?_⟩
 rw [List.mem_singleton.1 hb];exact hs a ha
theorem Cv.next {v:Nat→Spt} {n k:Nat} {o:List Spt} (h:Cv v n k o):Cv v n (k+1) o :=
 ⟨h.t1,fun m a b=>h.t2 m (by omega) b,fun x hx a b p q r=>h.t3 x hx a b (by omega) q r,fun a b c p q r s=>h.t4 a b c (by omega) q r s⟩
theorem Cv.add {v:Nat→Spt} {n k:Nat} {o:List Spt} (h:Cv v n k o) (hk:k≤n):Cv v n k (adS o (v k)):=by
 rcases adS_cases o (v k) with ⟨_,e⟩ | ⟨_,e⟩
 ·rw [e];exact h
 ·rw [e]
  refine ⟨.app h.t1 (h.t2 k (Nat.le_refl _) hk),fun m a b=>pw_app (h.t2 m a b) fun x hx=>h.t3 x hx k m (Nat.le_refl _) a b,fun x hx a b p q r=>?_,h.t4⟩
  rcases List.mem_append.1 hx with hx | hx
  ·exact h.t3 x hx a b p q r
  ·rw [List.mem_singleton.1 hx];exact h.t4 k a b (Nat.le_refl _) p q r
theorem Cv.cross {v:Nat→Spt} {n k:Nat} {o:List Spt} {c:Spt} (h:Cv v n k o) (hk:k+1≤n) (hm:Mix (v k) (v (k+1)) c):Cv v n (k+1) (adS o c):=by
 rcases adS_cases o c with ⟨_,e⟩ | ⟨_,e⟩
 ·rw [e];exact h.next
 ·rw [e]
  refine ⟨.app h.t1 ?_,fun m a b=>pw_app (h.t2 m (by omega) b) fun x hx=>?_,fun x hx a b p q r=>?_,h.next.t4⟩
  ·have p1:=h.t2 k (Nat.le_refl _) (by omega)
   have p2:=h.t2 (k+1) (by omega) hk
   exact (p1.and p2).imp fun {x y} hxy=>dt3_mix3 hm x y hxy.1 hxy.2
  ·exact dt3_mix2 hm x (v m) (h.t3 x hx k m (by omega) (by omega) b) (h.t3 x hx (k+1) m (by omega) a b)
  ·rcases List.mem_append.1 hx with hx | hx
   ·exact h.t3 x hx a b (by omega) q r
   ·rw [List.mem_singleton.1 hx]
    exact dt3_mix1 hm _ _ (h.t4 k a b (by omega) (by omega) q r) (h.t4 (k+1) a b (by omega) p q r)
theorem Cv.step {v:Nat→Spt} {n k:Nat} {o:List Spt} {L:Spt} (h:Cv v n k o) (hk:k+1≤n) (d1:0<(v k).2.2) (d2:0<(v (k+1)).2.2):Cv v n (k+1) (clS L o (v k) (v (k+1))):=by
 have h2:Cv v n k (if 0≤lev L (v k) then adS o (v k) else o):=by
  split
  ·exact h.add (by omega)
  ·exact h
 unfold clS
 dsimp only
 split
 ·rename_i hc
  exact h2.cross hk (crS_mix d1 d2 hc)
 ·exact h2.next
def TriL (l:List Spt):Prop:=∀ i j k,i<j→j<k→k<l.length→0≤dt3 (l.getD i z3) (l.getD j z3) (l.getD k z3)
theorem clR_tri (L:Spt) {l:List Spt} (hd:∀ x∈l,0<x.2.2) (h:TriL l):TriL (clR L l):=by
 have key:∀ k,k≤l.length→Cv (fun i=>l.getD (i % l.length) z3) l.length k (clN L l k):=by
  intro k
  induction k with
  | zero =>
   intro _
   refine ⟨.nil,fun m _ _=>List.Pairwise.nil,fun x hx=>(by cases hx),fun a b c _ h1 h2 h3=>?_⟩
   by_cases hn:l.length=0
   ·rw [show a=0 by omega,show b=0 by omega,dt3_self1];exact Int.le_refl _
   by_cases e1:a=b
   ·rw [e1,dt3_self1];exact Int.le_refl _
   by_cases e2:b=c
   ·rw [e2,dt3_self2];exact Int.le_refl _
   rw [Nat.mod_eq_of_lt (show a<l.length by omega),Nat.mod_eq_of_lt (show b<l.length by omega)]
   by_cases e3:c<l.length
   ·rw [Nat.mod_eq_of_lt e3];exact h a b c (by omega) (by omega) e3
   ·rw [show c=l.length by omega,Nat.mod_self,dt3_rot]
    by_cases e4:a=0
    ·rw [e4,dt3_self1];exact Int.le_refl _
    ·exact h 0 a b (by omega) (by omega) (by omega)
  | succ k ih =>
   intro hk
   have hkl:k<l.length:=by omega
   have hnl:(k+1) % l.length<l.length:=Nat.mod_lt _ (by omega)
   have e1:=Nat.mod_eq_of_lt hkl
   have:=(ih (by omega)).step (L:=L) hk (by rw [e1];exact hd _ (getD_mem3 hkl)) (hd _ (getD_mem3 hnl))
   rw [e1] at this
   exact this
 exact (key l.length (Nat.le_refl _)).t1.get
theorem cvx_trn {l:List (Int×Int)} (h:Cvx l) {i j:Nat} (hij:i<j):∀ k,j<k→k<l.length→0<trn (l.getD i (0,0)) (l.getD j (0,0)) (l.getD k (0,0)):=by
 intro k
 induction k with
 | zero=>intro h;omega
 | succ k ih =>
  intro hjk hk
  have hs:∀ m,i+1<m→m<l.length→0<trn (l.getD i (0,0)) (l.getD (i+1) (0,0)) (l.getD m (0,0)):=fun m hm hml=>by
   have:=h i m (by omega) hml (by omega) (by rw [Nat.mod_eq_of_lt (by omega)];omega)
   rwa [Nat.mod_eq_of_lt (show i+1<l.length by omega)] at this
  have hc:0<trn (l.getD k (0,0)) (l.getD (k+1) (0,0)) (l.getD i (0,0)):=by
   have:=h k i (by omega) (by omega) (by omega) (by rw [Nat.mod_eq_of_lt hk];omega)
   rwa [Nat.mod_eq_of_lt hk] at this
  have hc2:0<trn (l.getD i (0,0)) (l.getD k (0,0)) (l.getD (k+1) (0,0)):=by
   have e:trn (l.getD k (0,0)) (l.getD (k+1) (0,0)) (l.getD i (0,0))=trn (l.getD i (0,0)) (l.getD k (0,0)) (l.getD (k+1) (0,0)):=by unfold trn;grind
   omega
  by_cases e:j=k
  ·rw [e];exact hc2
  ·have ih:=ih (by omega) (by omega)
   by_cases ej:j=i+1
   ·rw [ej];exact hs (k+1) (by omega) hk
   have g1:=hs j (by omega) (by omega)
   have g2:=hs k (by omega) (by omega)
   have g3:=hs (k+1) (by omega) hk
   generalize l.getD i (0,0)=a at *
   generalize l.getD (i+1) (0,0)=b at *
   generalize l.getD j (0,0)=u at *
   generalize l.getD k (0,0)=w at *
   generalize l.getD (k+1) (0,0)=x at *
   have e:trn a b w*trn a u x=trn a b u*trn a w x+trn a b x*trn a u w:=by unfold trn;grind
   have m1:=Int.mul_pos g1 hc2
   have m2:=Int.mul_pos g3 ih
   exact Int.pos_of_mul_pos_right (a:=trn a b w) (by omega) g2
def spS (l:List (Int×Int)):List Spt:=l.map fun p=>(p.1,p.2,1)
theorem spS_getD {l:List (Int×Int)} {i:Nat} (h:i<l.length):(spS l).getD i z3=((l.getD i (0,0)).1,(l.getD i (0,0)).2,1):=by simp [spS,List.getD,h]
theorem spS_len (l:List (Int×Int)):(spS l).length=l.length:=List.length_map _
theorem spS_poly {l:List (Int×Int)} (h3:3≤l.length) (h:Cvx l) (hb:∀ p∈l,0≤p.1∧p.1≤6∧0≤p.2∧p.2≤6):Poly (spS l):=by
 refine ⟨fun x hx=>?_,fun x hx=>?_,fun i hi=>?_⟩
 ·obtain ⟨p,_,rfl⟩:=List.mem_map.1 hx;exact Int.one_pos
 ·obtain ⟨p,_,rfl⟩:=List.mem_map.1 hx;show (1:Int)≤12;omega
 ·rw [spS_len] at hi ⊢
  have hn:(i+1) % l.length<l.length:=Nat.mod_lt _ (by omega)
  rw [spS_getD hi,spS_getD hn]
  have m1:l.getD i (0,0)∈l:=by simp [List.getD,hi]
  have m2:l.getD ((i+1) % l.length) (0,0)∈l:=by simp [List.getD,hn]
  have b1:=hb _ m1
  have b2:=hb _ m2
  have hne:¬ (l.getD i (0,0)=l.getD ((i+1) % l.length) (0,0)):=fun e=>by
   obtain ⟨k,hk,k1,k2⟩:∃ k,k<l.length∧k≠i∧k≠(i+1) % l.length:=by
    by_cases a0:0≠i∧0≠(i+1) % l.length
    ·exact ⟨0,by omega,a0.1,a0.2⟩
    by_cases a1:1≠i∧1≠(i+1) % l.length
    ·exact ⟨1,by omega,a1.1,a1.2⟩
    ·exact ⟨2,by omega,by omega,by omega⟩
   have:=h i k hi hk k1 k2
   rw [← e] at this
   unfold trn at this
   grind
  generalize l.getD i (0,0)=a at *
  generalize l.getD ((i+1) % l.length) (0,0)=b at *
  refine ⟨(-(b.2-a.2),b.1-a.1,(b.2-a.2)*a.1-(b.1-a.1)*a.2),by dsimp only;omega,by dsimp only;omega,fun e=>hne ?_,by unfold lev;dsimp only;grind,by unfold lev;dsimp only;grind⟩
  dsimp only at e
  exact Prod.ext (by omega) (by omega)
end Go.Proofs.YtdgabicjcepmeaaGreatDoor
namespace Go.Proofs.YtdgabicjcepmeaaGreatDoor
abbrev RP:=Rat×Rat
def rp (s:Spt):RP:=((s.1:Rat) / (s.2.2:Rat),(s.2.1:Rat) / (s.2.2:Rat))
def dtr (p q r:RP):Rat:=(q.1-p.1)*(r.2-p.2)-(q.2-p.2)*(r.1-p.1)
def lv (L:Spt) (p:RP):Rat:=(L.1:Rat)*p.1+(L.2.1:Rat)*p.2+(L.2.2:Rat)
structure Fn (F:RP→RP→Rat):Prop where
 anti:∀ p q,F q p=- F p q
 coll:∀ p m q,dtr p m q=0→F p q=F p m+F m q
theorem Fn.self {F:RP→RP→Rat} (h:Fn F) (p:RP):F p p=0:=by have:=h.anti p p;grind
theorem qcancel {a x y:Rat} (ha:a≠0) (h:a*x=a*y):x=y:=by
 have:a*(x-y)=0:=by grind
 rcases Rat.mul_eq_zero.1 this with q | q
 ·exact absurd q ha
 ·grind
def qsum:Nat→(Nat→Rat)→Rat
 | 0,_=>0
 | n+1,f=>qsum n f+f n
def pth (F:RP→RP→Rat):RP→List Spt→Rat
 | _,[]=>0
 | p,x::l=>F p (rp x)+pth F (rp x) l
def lastR:RP→List Spt→RP
 | p,[]=>p
 | _,x::l=>lastR (rp x) l
theorem lastR_app:∀ (p:RP) (l:List Spt) (x:Spt),lastR p (l++[x])=rp x
 | _,[],_=>rfl
 | _,y::l,x=>lastR_app (rp y) l x
theorem pth_app (F:RP→RP→Rat):∀ (p:RP) (l:List Spt) (x:Spt),pth F p (l++[x])=pth F p l+F (lastR p l) (rp x)
 | p,[],x=>by show F p (rp x)+0=0+F p (rp x);grind
 | p,y::l,x=>by
  show F p (rp y)+pth F (rp y) (l++[x])=F p (rp y)+pth F (rp y) l+F (lastR (rp y) l) (rp x)
  rw [pth_app F (rp y) l x];grind
def cyc (F:RP→RP→Rat) (l:List Spt):Rat:=qsum l.length fun i=>F (rp (l.getD i z3)) (rp (l.getD ((i+1) % l.length) z3))
theorem pth_sum (F:RP→RP→Rat) (x:Spt) (l:List Spt):∀ k,k≤l.length→pth F (rp x) (l.take k)=qsum k (fun i=>F (rp ((x::l).getD i z3)) (rp ((x::l).getD (i+1) z3)))∧lastR (rp x) (l.take k)=rp ((x::l).getD k z3)
 | 0,_=>⟨rfl,rfl⟩
 | k+1,h=>by
  obtain ⟨a,b⟩:=pth_sum F x l k (by omega)
  have hk:k<l.length:=by omega
  have e:l.take (k+1)=l.take k++[l.getD k z3]:=by
   rw [List.take_add_one];simp [List.getD,hk]
  rw [e,pth_app,lastR_app,a,b]
  exact ⟨rfl,rfl⟩
theorem qsum_congr {n:Nat} {f g:Nat→Rat} (h:∀ i,i<n→f i=g i):qsum n f=qsum n g:=by
 induction n with
 | zero=>rfl
 | succ n ih =>
  show qsum n f+f n=qsum n g+g n
  rw [ih (fun i hi=>h i (by omega)),h n (by omega)]
theorem cyc_cons (F:RP→RP→Rat) (x:Spt) (l:List Spt):cyc F (x::l)=pth F (rp x) l+F (lastR (rp x) l) (rp x):=by
 obtain ⟨a,b⟩:=pth_sum F x l l.length (Nat.le_refl _)
 rw [List.take_length] at a b
 rw [a,b]
 unfold cyc
 show qsum l.length _+F (rp ((x::l).getD l.length z3)) (rp ((x::l).getD ((l.length+1) % (l.length+1)) z3))=_
 rw [Nat.mod_self]
 congr 1
 refine qsum_congr fun i hi=>?_
 rw [show (x::l).length=l.length+1 from rfl,Nat.mod_eq_of_lt (by omega)]
end Go.Proofs.YtdgabicjcepmeaaGreatDoor
namespace Go.Proofs.YtdgabicjcepmeaaGreatDoor
theorem rp_mul {s:Spt} (h:0<s.2.2):(s.1:Rat)=(rp s).1*(s.2.2:Rat)∧(s.2.1:Rat)=(rp s).2*(s.2.2:Rat)∧(0:Rat)<(s.2.2:Rat):=by
 have h0:(s.2.2:Rat)≠0:=fun e=>by have:=Rat.intCast_inj.1 (show ((s.2.2:Int):Rat)=((0:Int):Rat) from e);omega
 exact ⟨(Rat.div_mul_cancel h0).symm,(Rat.div_mul_cancel h0).symm,Rat.intCast_lt_intCast.2 h⟩
theorem lev_lv (L:Spt) {s:Spt} (h:0<s.2.2):((lev L s:Int):Rat)=(s.2.2:Rat)*lv L (rp s):=by
 obtain ⟨a,b,c⟩:=rp_mul h
 unfold lev lv
 rw [Rat.intCast_add,Rat.intCast_add,Rat.intCast_mul,Rat.intCast_mul,Rat.intCast_mul,a,b]
 grind
theorem lev_sgn (L:Spt) {s:Spt} (h:0<s.2.2):(0≤lev L s↔0≤lv L (rp s))∧(lev L s=0↔lv L (rp s)=0):=by
 have e:=lev_lv L h
 obtain ⟨_,_,c⟩:=rp_mul h
 refine ⟨⟨fun q=>?_,fun q=>?_⟩,fun q=>?_,fun q=>?_⟩
 ·have q2:(0:Rat)≤(lev L s:Int):=Rat.intCast_le_intCast.2 q
  refine Rat.not_lt.1 fun hl=>?_
  have:=Rat.mul_lt_mul_of_pos_left hl c
  grind
 ·refine Int.not_lt.1 fun hl=>?_
  have q2:((lev L s:Int):Rat)<((0:Int):Rat):=Rat.intCast_lt_intCast.2 hl
  have:=Rat.mul_nonneg (show (0:Rat)≤(s.2.2:Rat) by grind) q
  rw [e] at q2
  have:((0:Int):Rat)=0:=rfl
  grind
 ·rw [q] at e
  have:(s.2.2:Rat)*lv L (rp s)=0:=e.symm
  rcases Rat.mul_eq_zero.1 this with x | x
  ·grind
  ·exact x
 ·rw [q,Rat.mul_zero] at e
  exact Rat.intCast_inj.1 e
theorem dt3_dtr {p q r:Spt} (hp:0<p.2.2) (hq:0<q.2.2) (hr:0<r.2.2):((dt3 p q r:Int):Rat)=(p.2.2:Rat)*(q.2.2:Rat)*(r.2.2:Rat)*dtr (rp p) (rp q) (rp r):=by
 obtain ⟨a1,a2,a3⟩:=rp_mul hp
 obtain ⟨b1,b2,b3⟩:=rp_mul hq
 obtain ⟨c1,c2,c3⟩:=rp_mul hr
 unfold dt3 dtr
 simp only [Rat.intCast_add,Rat.intCast_sub,Rat.intCast_mul]
 rw [a1,a2,b1,b2,c1,c2]
 grind
theorem mix_col {s t c:Spt} (h:Mix s t c):dt3 s c t=0:=by
 obtain ⟨k,p,q,hk,hp,hq,e1,e2,e3⟩:=h.ex
 have:k*dt3 s c t=0:=by unfold dt3;grind
 rcases Int.mul_eq_zero.1 this with x | x
 ·omega
 ·exact x
theorem on_line {L:Spt} (l0:¬ (L.1=0∧L.2.1=0)) {p q r:RP} (hp:lv L p=0) (hq:lv L q=0) (hr:lv L r=0):dtr p q r=0:=by
 have k1:(L.1:Rat)*dtr p q r=0:=by unfold lv dtr at *;grind
 have k2:(L.2.1:Rat)*dtr p q r=0:=by unfold lv dtr at *;grind
 by_cases h:L.1=0
 ·have h2:L.2.1≠0:=fun e=>l0 ⟨h,e⟩
  rcases Rat.mul_eq_zero.1 k2 with x | x
  ·exact absurd (Rat.intCast_inj.1 (show ((L.2.1:Int):Rat)=((0:Int):Rat) from x)) h2
  ·exact x
 ·rcases Rat.mul_eq_zero.1 k1 with x | x
  ·exact absurd (Rat.intCast_inj.1 (show ((L.1:Int):Rat)=((0:Int):Rat) from x)) h
  ·exact x
end Go.Proofs.YtdgabicjcepmeaaGreatDoor
namespace Go.Proofs.YtdgabicjcepmeaaGreatDoor
def vlq (V:Rat×Rat×Rat) (p:RP):Rat:=V.1*p.1+V.2.1*p.2+V.2.2
def phi (V:Rat×Rat×Rat) (p q r:RP):Rat:=dtr p q r*(vlq V p+vlq V q+vlq V r) / 6
def efn (V:Rat×Rat×Rat) (p q:RP):Rat:=phi V (0,0) p q
theorem phi_efn (V:Rat×Rat×Rat) (p q r:RP):phi V p q r=efn V p q+efn V q r+efn V r p:=by
 unfold efn phi vlq dtr;grind
theorem efn_fn (V:Rat×Rat×Rat):Fn (efn V):=by
 have ha:∀ p q,efn V q p=- efn V p q:=fun p q=>by unfold efn phi vlq dtr;grind
 refine ⟨ha,fun p m q h=>?_⟩
 have e:=phi_efn V p m q
 have:phi V p m q=0:=by unfold phi;rw [h];grind
 have:=ha p q
 grind
def fan (V:Rat×Rat×Rat) (l:List Spt):Rat:=qsum (l.length-2) fun i=>phi V (rp (l.getD 0 z3)) (rp (l.getD (i+1) z3)) (rp (l.getD (i+2) z3))
theorem fan_cyc (V:Rat×Rat×Rat) (l:List Spt):fan V l=cyc (efn V) l:=by
 have hF:=efn_fn V
 have key:∀ m,qsum m (fun i=>phi V (rp (l.getD 0 z3)) (rp (l.getD (i+1) z3)) (rp (l.getD (i+2) z3)))=qsum (m+1) (fun i=>efn V (rp (l.getD i z3)) (rp (l.getD (i+1) z3)))+efn V (rp (l.getD (m+1) z3)) (rp (l.getD 0 z3)):=by
  intro m
  induction m with
  | zero =>
   show (0:Rat)=0+efn V (rp (l.getD 0 z3)) (rp (l.getD 1 z3))+efn V (rp (l.getD 1 z3)) (rp (l.getD 0 z3))
   rw [hF.anti (rp (l.getD 0 z3)) (rp (l.getD 1 z3))];grind
  | succ m ih =>
   show qsum m _+phi V (rp (l.getD 0 z3)) (rp (l.getD (m+1) z3)) (rp (l.getD (m+2) z3))=qsum (m+1) _+efn V (rp (l.getD (m+1) z3)) (rp (l.getD (m+2) z3))+_
   rw [ih,phi_efn,hF.anti (rp (l.getD 0 z3)) (rp (l.getD (m+1) z3))];grind
 match l,key with
 | [],_=>rfl
 | [x],_ =>
  show (0:Rat)=0+efn V (rp x) (rp ([x].getD ((0+1) % (0+1)) z3))
  rw [Nat.mod_self]
  show (0:Rat)=0+efn V (rp x) (rp x)
  rw [hF.self];grind
 | x::y::t,key =>
  have:=key t.length
  unfold fan
  rw [show (x::y::t).length-2=t.length from rfl,this]
  unfold cyc
  rw [show (x::y::t).length=t.length+1+1 from rfl]
  show _=qsum (t.length+1) _+efn V (rp ((x::y::t).getD (t.length+1) z3)) (rp ((x::y::t).getD ((t.length+1+1) % (t.length+1+1)) z3))
  rw [Nat.mod_self]
  congr 1
  refine qsum_congr fun i hi=>?_
  rw [Nat.mod_eq_of_lt (by omega)]
theorem cyc_line {F:RP→RP→Rat} {L:Spt} (l0:¬ (L.1=0∧L.2.1=0)) (hF:Fn F) {l:List Spt} (h:∀ x∈l,lv L (rp x)=0):cyc F l=0:=by
 cases l with
 | nil=>rfl
 | cons f t =>
  have hf:=h f (by simp)
  have key:∀ (t:List Spt) (p:RP),lv L p=0→(∀ x∈t,lv L (rp x)=0)→pth F p t=F p (lastR p t)∧lv L (lastR p t)=0:=by
   intro t
   induction t with
   | nil=>intro p hp _;exact ⟨(hF.self p).symm,hp⟩
   | cons x t ih =>
    intro p hp hx
    obtain ⟨a,b⟩:=ih (rp x) (hx x (by simp)) (fun y hy=>hx y (by simp [hy]))
    refine ⟨?_,b⟩
    show F p (rp x)+pth F (rp x) t=F p (lastR (rp x) t)
    rw [a,hF.coll p (rp x) _ (on_line l0 hp (hx x (by simp)) b)]
  obtain ⟨a,b⟩:=key t (rp f) hf (fun x hx=>h x (by simp [hx]))
  rw [cyc_cons,a,hF.anti];grind
structure GrL (L:Spt) (o:RP):Prop where
 l1:L.1.natAbs≤1
 l2:L.2.1.natAbs≤1
 l0:¬ (L.1=0∧L.2.1=0)
 on:lv L o=0
theorem clR_all {Q:Spt→Prop} (L:Spt) {l:List Spt} (hQ:∀ s t c,Q s→Q t→Mix s t c→Q c) (hp:∀ x,Q x→0<x.2.2) (hl:∀ x∈l,Q x):∀ x∈clR L l,Q x:=clN_all L hQ hp hl l.length (Nat.le_refl _)
def neg3 (L:Spt):Spt:=(-L.1,-L.2.1,-L.2.2)
theorem lev_neg (L s:Spt):lev (neg3 L) s=- lev L s:=by unfold lev neg3;grind
theorem lv_neg (L:Spt) (p:RP):lv (neg3 L) p=- lv L p:=by unfold lv neg3;simp only [Rat.intCast_neg];grind
theorem GrL.neg {L:Spt} {o:RP} (h:GrL L o):GrL (neg3 L) o:=⟨by have:=h.l1;unfold neg3;dsimp only;omega,by have:=h.l2;unfold neg3;dsimp only;omega,fun e=>h.l0 (by unfold neg3 at e;dsimp only at e;omega),by rw [lv_neg,h.on];grind⟩
theorem left_all (M:Spt) {L:Spt} {l:List Spt} (hP:Poly l) (h:∀ x∈l,0≤lev M x):∀ x∈clR L l,0≤lev M x:=fun x hx =>
 (clR_all (Q:=fun x=>0<x.2.2∧0≤lev M x) L (fun s t c h1 h2 hm=>⟨mix_d h1.1 h2.1 hm,hm.nn M h1.2 h2.2⟩) (fun x hx=>hx.1) (fun x hx=>⟨hP.d0 x hx,h x hx⟩) x hx).2
theorem qsum_add (f g:Nat→Rat):∀ n,qsum n (fun i=>f i+g i)=qsum n f+qsum n g
 | 0=>by show (0:Rat)=0+0;grind
 | n+1=>by
  show qsum n (fun i=>f i+g i)+(f n+g n)=qsum n f+f n+(qsum n g+g n)
  rw [qsum_add f g n];grind
theorem qsum_shift (h:Nat→Rat):∀ n,qsum n (fun i=>h (i+1)-h i)=h n-h 0
 | 0=>by show (0:Rat)=h 0-h 0;grind
 | n+1=>by
  show qsum n (fun i=>h (i+1)-h i)+(h (n+1)-h n)=_
  rw [qsum_shift h n];grind
end Go.Proofs.YtdgabicjcepmeaaGreatDoor
namespace Go.Proofs.YtdgabicjcepmeaaGreatDoor
def clL (Ls:List Spt) (l:List Spt):List Spt:=Ls.foldr clR l
def OkL (Ls:List Spt):Prop:=∀ L∈Ls,∃ o,GrL L o
def gX (a:Int):Spt:=(1,0,-a)
def lX (a:Int):Spt:=(-1,0,a)
def gY (a:Int):Spt:=(0,1,-a)
def lY (a:Int):Spt:=(0,-1,a)
def dgL (k:Int):Spt:=(1,-1,k)
theorem gl_gX (a:Int):GrL (gX a) ((a:Rat),0):=⟨by unfold gX;dsimp only;decide,by unfold gX;dsimp only;decide,by unfold gX;dsimp only;decide,by unfold lv gX;dsimp only;rw [Rat.intCast_neg];grind⟩
theorem gl_lX (a:Int):GrL (lX a) ((a:Rat),0):=⟨by unfold lX;dsimp only;decide,by unfold lX;dsimp only;decide,by unfold lX;dsimp only;decide,by unfold lv lX;dsimp only;rw [Rat.intCast_neg];grind⟩
theorem gl_gY (a:Int):GrL (gY a) (0,(a:Rat)):=⟨by unfold gY;dsimp only;decide,by unfold gY;dsimp only;decide,by unfold gY;dsimp only;decide,by unfold lv gY;dsimp only;rw [Rat.intCast_neg];grind⟩
theorem gl_lY (a:Int):GrL (lY a) (0,(a:Rat)):=⟨by unfold lY;dsimp only;decide,by unfold lY;dsimp only;decide,by unfold lY;dsimp only;decide,by unfold lv lY;dsimp only;rw [Rat.intCast_neg];grind⟩
theorem gl_dL (a:Int):GrL (dgL a) (0,(a:Rat)):=⟨by unfold dgL;dsimp only;decide,by unfold dgL;dsimp only;decide,by unfold dgL;dsimp only;decide,by unfold lv dgL;dsimp only;rw [Rat.intCast_neg];grind⟩
theorem okL_nil:OkL []:=fun _ h=>by cases h
theorem OkL.cons {L:Spt} {o:RP} {Ls:List Spt} (hL:GrL L o) (h:OkL Ls):OkL (L::Ls):=fun M hM=>by
 rcases List.mem_cons.1 hM with e | e
 ·subst e;exact ⟨o,hL⟩
 ·exact h M e
def lowL (x y:Int):List Spt:=[dgL (y-x),lX (x+1),gY y]
def uppL (x y:Int):List Spt:=[gX x,lY (y+1),neg3 (dgL (y-x))]
theorem okL_low (x y:Int):OkL (lowL x y):=.cons (gl_dL _) (.cons (gl_lX _) (.cons (gl_gY _) okL_nil))
theorem okL_upp (x y:Int):OkL (uppL x y):=.cons (gl_gX _) (.cons (gl_lY _) (.cons (gl_dL _).neg okL_nil))
end Go.Proofs.YtdgabicjcepmeaaGreatDoor
namespace Go.Proofs.YtdgabicjcepmeaaGreatDoor
theorem frac_mul (n d:Rat):n / d=n*(1 / d):=by rw [Rat.div_def,Rat.div_def];grind
end Go.Proofs.YtdgabicjcepmeaaGreatDoor
namespace Go.Proofs.YtdgabicjcepmeaaGreatDoor
end Go.Proofs.YtdgabicjcepmeaaGreatDoor
namespace Go.Proofs.YtdgabicjcepmeaaGreatDoor
inductive AchE (E:Spt→Spt→Prop):List Spt→Prop
 | nil:AchE E []
 | app {l:List Spt} {s:Spt} (h:AchE E l) (e:∀ z,l.getLast? = some z→E z s):AchE E (l++[s])
theorem AchE.adS {E:Spt→Spt→Prop} {l:List Spt} {s:Spt} (h:AchE E l) (e:∀ z,l.getLast? = some z→E z s):AchE E (adS l s):=by
 rcases adS_cases l s with ⟨_,q⟩ | ⟨_,q⟩
 ·rw [q];exact h
 ·rw [q];exact .app h e
theorem AchE.get {E:Spt→Spt→Prop} {l:List Spt} (h:AchE E l):∀ i,i+1<l.length→E (l.getD i z3) (l.getD (i+1) z3):=by
 induction h with
 | nil=>intro i hi;simp at hi
 | @app l s h e ih =>
  intro i hi
  rw [List.length_append,List.length_singleton] at hi
  rw [getD_app3 (by omega)]
  by_cases hx:i+1<l.length
  ·rw [getD_app3 hx];exact ih i hx
  ·have e1:(l++[s]).getD (i+1) z3=s:=by
    rw [show i+1=l.length by omega];simp [List.getD]
   rw [e1]
   refine e _ ?_
   rw [getD_last3 (by omega),show l.length-1=i by omega]
structure InvE (E:Spt→Spt→Prop) (L s0:Spt) (k:Nat) (o:List Spt) (s:Spt):Prop where
 a:AchE E o
 r:∀ z,o.getLast? = some z→if lev L s<0 then lev L z=0 else E z s
 e:o=[]→k=0∨lev L s≤0
 z:k=0→o=[]∧s=s0
 p:0≤lev L s0→0<k→o.head? = some s0
 n:lev L s0<0→∀ f,o.head? = some f→lev L f=0
theorem invE_step {E:Spt→Spt→Prop} {L s0 s n:Spt} {k:Nat} {o:List Spt} (hline:∀ a b,lev L a=0→lev L b=0→E a b) (h:InvE E L s0 k o s) (hd1:0<s.2.2) (hd2:0<n.2.2) (eg:E s n) (em:∀ c,Mix s n c→E s c∧E c n):InvE E L s0 (k+1) (clS L o s n) n:=by
 obtain ⟨o2,ho2⟩:∃ o2,o2=if 0≤lev L s then adS o s else o:=⟨_,rfl⟩
 have A:AchE E o2∧(0≤lev L s→o2.getLast? = some s)∧(lev L s<0→∀ z,o2.getLast? = some z→lev L z=0)∧(0≤lev L s0→o2.head? = some s0)∧(lev L s0<0→∀ f,o2.head? = some f→lev L f=0):=by
  by_cases hs:0≤lev L s
  ·rw [if_pos hs] at ho2
   subst ho2
   refine ⟨h.a.adS fun z hz=>?_,fun _=>adS_last o s,fun q=>by omega,fun q=>?_,fun q f hf=>?_⟩
   ·have:=h.r z hz
    rwa [if_neg (by omega)] at this
   ·rw [adS_head]
    by_cases k0:k=0
    ·obtain ⟨z1,z2⟩:=h.z k0
     rw [if_pos z1,z2]
    ·have:=h.p q (by omega)
     rw [if_neg (fun e=>by rw [e] at this;cases this),this]
   ·rw [adS_head] at hf
    by_cases ho:o=[]
    ·rw [if_pos ho] at hf
     have e:s=f:=Option.some.inj hf
     rcases h.e ho with k0 | k0
     ·have:=(h.z k0).2
      rw [this] at hs
      omega
     ·rw [← e];omega
    ·rw [if_neg ho] at hf
     exact h.n q f hf
  ·rw [if_neg hs] at ho2
   subst ho2
   refine ⟨h.a,fun q=>absurd q hs,fun _ z hz=>?_,fun q=>?_,h.n⟩
   ·have:=h.r z hz
    rwa [if_pos (by omega)] at this
   ·refine h.p q ?_
    by_cases k0:k=0
    ·have:=(h.z k0).2
     rw [this] at hs
     omega
    ·omega
 obtain ⟨A2,A3,A4,A5,A6⟩:=A
 have e1:clS L o s n=if (0<lev L s∧lev L n<0)∨(lev L s<0∧0<lev L n) then adS o2 (crS (lev L s) (lev L n) s n) else o2:=by unfold clS;dsimp only;rw [← ho2]
 rw [e1]
 by_cases hx:(0<lev L s∧lev L n<0)∨(lev L s<0∧0<lev L n)
 ·rw [if_pos hx]
  have hm:=crS_mix hd1 hd2 hx
  have hon:=crS_on L hd1 hd2 hx
  generalize crS (lev L s) (lev L n) s n=c at *
  obtain ⟨g1,g2⟩:=em c hm
  refine ⟨A2.adS fun z hz=>?_,fun z hz=>?_,fun e=>absurd e (adS_ne _ _),fun e=>by omega,fun q _=>?_,fun q f hf=>?_⟩
  ·rcases hx with q | q
   ·have:=A3 (by omega)
    rw [this] at hz
    rw [← Option.some.inj hz];exact g1
   ·exact hline _ _ (A4 q.1 z hz) hon
  ·rw [adS_last] at hz
   rw [← Option.some.inj hz]
   split
   ·exact hon
   ·exact g2
  ·have:=A5 q
   rw [adS_head,if_neg (fun e=>by rw [e] at this;cases this),this]
  ·rw [adS_head] at hf
   by_cases ho:o2=[]
   ·rw [if_pos ho] at hf
    rw [← Option.some.inj hf];exact hon
   ·rw [if_neg ho] at hf
    exact A6 q f hf
 ·rw [if_neg hx]
  refine ⟨A2,fun z hz=>?_,fun e=>?_,fun e=>by omega,fun q _=>A5 q,A6⟩
  ·by_cases hs:0≤lev L s
   ·have:=A3 hs
    rw [this] at hz
    rw [← Option.some.inj hz]
    split
    ·omega
    ·exact eg
   ·have:=A4 (by omega) z hz
    split
    ·exact this
    ·exact hline _ _ this (by omega)
  ·by_cases hs:0≤lev L s
   ·have:=A3 hs
    rw [e] at this
    cases this
   ·right;omega
def Rnd (E:Spt→Spt→Prop) (l:List Spt):Prop:=∀ i,i<l.length→E (l.getD i z3) (l.getD ((i+1) % l.length) z3)
theorem clR_rnd {E E':Spt→Spt→Prop} {L:Spt} {l:List Spt} (hd:∀ x∈l,0<x.2.2) (h:Rnd E' l) (hline:∀ a b,lev L a=0→lev L b=0→E a b) (he:∀ s n,E' s n→E s n) (hm:∀ s n c,E' s n→Mix s n c→E s c∧E c n):Rnd E (clR L l):=by
 have key:∀ k,k≤l.length→InvE E L (l.getD 0 z3) k (clN L l k) (l.getD (k % l.length) z3):=by
  intro k
  induction k with
  | zero =>
   intro _
   refine ⟨AchE.nil,fun z hz=>(by cases hz),fun _=>Or.inl rfl,fun _=>⟨rfl,(by rw [Nat.zero_mod])⟩,fun _ h=>absurd h (by omega),fun _ f hf=>(by cases hf)⟩
  | succ k ih =>
   intro hk
   have hkl:k<l.length:=by omega
   have hnl:(k+1) % l.length<l.length:=Nat.mod_lt _ (by omega)
   have ih:=ih (by omega)
   rw [Nat.mod_eq_of_lt hkl] at ih
   have hE:=h k hkl
   exact invE_step hline ih (hd _ (getD_mem3 hkl)) (hd _ (getD_mem3 hnl)) (he _ _ hE) (fun c hc=>hm _ _ c hE hc)
 have hI:=key l.length (Nat.le_refl _)
 unfold clR
 rw [Nat.mod_self] at hI
 intro i hi
 by_cases e:i+1<(clN L l l.length).length
 ·rw [Nat.mod_eq_of_lt e];exact hI.a.get i e
 ·rw [show i+1=(clN L l l.length).length by omega,Nat.mod_self,show i=(clN L l l.length).length-1 by omega]
  have hl:=getD_last3 (show 0<(clN L l l.length).length by omega)
  have hr:=hI.r _ hl
  have hl0:l.length≠0:=fun e=>by
   rw [e] at hi
   exact absurd hi (by unfold clN;simp)
  have hh:(clN L l l.length).head? = some ((clN L l l.length).getD 0 z3):=by
   generalize clN L l l.length=o at *
   cases o with
   | nil=>simp at hi
   | cons x o=>rfl
  by_cases hs:lev L (l.getD 0 z3)<0
  ·rw [if_pos hs] at hr
   exact hline _ _ hr (hI.n hs _ hh)
  ·rw [if_neg hs] at hr
   have:=hI.p (by omega) (by omega)
   rw [hh] at this
   rw [Option.some.inj this];exact hr
theorem dt3_line {L x y z w:Spt} (hx:lev L x=0) (hy:lev L y=0):dt3 x y w*lev L z=dt3 x y z*lev L w:=by
 unfold lev dt3 at *
 grind
theorem dt3_bary (a b c v g:Spt):dt3 a b c*lev g v=dt3 b c v*lev g a+dt3 c a v*lev g b+dt3 a b v*lev g c:=by
 unfold lev dt3
 grind
def InP (l:List Spt) (v:Spt):Prop:=Rnd (fun x y=>0≤dt3 x y v) l
theorem mix_dt3 {s n c v:Spt} (h:Mix s n c) (h0:0≤dt3 s n v):0≤dt3 s c v∧0≤dt3 c n v:=by
 obtain ⟨k,p,q,hk,hp,hq,e1,e2,e3⟩:=h.ex
 have a:k*dt3 s c v=q*dt3 s n v:=by unfold dt3;grind
 have b:k*dt3 c n v=p*dt3 s n v:=by unfold dt3;grind
 refine ⟨Int.nonneg_of_mul_nonneg_right (a:=k) ?_ hk,Int.nonneg_of_mul_nonneg_right (a:=k) ?_ hk⟩
 ·rw [a];exact Int.mul_nonneg (by omega) h0
 ·rw [b];exact Int.mul_nonneg (by omega) h0
theorem tri_edge {l:List Spt} (h:TriL l) {i j:Nat} (hi:i<l.length) (hj:j<l.length):0≤dt3 (l.getD i z3) (l.getD ((i+1) % l.length) z3) (l.getD j z3):=by
 by_cases e:i+1<l.length
 ·rw [Nat.mod_eq_of_lt e]
  by_cases c1:j<i
  ·rw [dt3_rot];exact h j i (i+1) c1 (by omega) e
  ·by_cases c2:j=i
   ·rw [c2,dt3_self3];exact Int.le_refl _
   ·by_cases c3:j=i+1
    ·rw [c3,dt3_self2];exact Int.le_refl _
    ·exact h i (i+1) j (by omega) (by omega) hj
 ·rw [show i+1=l.length by omega,Nat.mod_self]
  by_cases c1:j=0
  ·rw [c1,dt3_self2];exact Int.le_refl _
  ·by_cases c2:j=i
   ·rw [c2,dt3_self3];exact Int.le_refl _
   ·rw [dt3_rot,dt3_rot];exact h 0 j i (by omega) (by omega) hi
theorem clR_in {L v:Spt} {l:List Spt} (hd:∀ x∈l,0<x.2.2) (ht:TriL l) (h:InP l v) (hv:0≤lev L v) {z:Spt} (hz:z∈clR L l) (hz0:0<lev L z):InP (clR L l) v:=by
 have hT:=clR_tri L hd ht
 have hr:Rnd (fun x y=>0≤dt3 x y v∨(lev L x=0∧lev L y=0)) (clR L l):=clR_rnd (E':=fun x y=>0≤dt3 x y v) hd h (fun a b ha hb=>.inr ⟨ha,hb⟩) (fun s n hs=>.inl hs) (fun s n c hs hm=>⟨.inl (mix_dt3 hm hs).1,.inl (mix_dt3 hm hs).2⟩)
 intro i hi
 rcases hr i hi with q | ⟨q1,q2⟩
 ·exact q
 ·obtain ⟨j,hj,e⟩:=List.getElem_of_mem hz
  have ez:z=(clR L l).getD j z3:=by rw [← e];simp [List.getD,hj]
  have t:=tri_edge hT hi hj
  rw [← ez] at t
  have id:=dt3_line (z:=z) (w:=v) q1 q2
  have:=Int.mul_nonneg t hv
  exact Int.nonneg_of_mul_nonneg_left (b:=lev L z) (by rw [id];exact this) hz0
theorem inside {l:List Spt} {v g:Spt} (h3:3≤l.length) (hd:∀ x∈l,0<x.2.2) (hs:∀ i j k,i<j→j<k→k<l.length→0<dt3 (l.getD i z3) (l.getD j z3) (l.getD k z3)) (hv:0<v.2.2) (h:InP l v) (hg:∀ x∈l,0<lev g x):0<lev g v:=by
 have f1:0≤dt3 (l.getD 0 z3) (l.getD 1 z3) v:=by
  have:=h 0 (by omega)
  rwa [Nat.mod_eq_of_lt (show 0+1<l.length by omega)] at this
 have fn:dt3 (l.getD 0 z3) (l.getD (l.length-1) z3) v≤0:=by
  have:=h (l.length-1) (by omega)
  rw [show l.length-1+1=l.length by omega,Nat.mod_self] at this
  have e:dt3 (l.getD (l.length-1) z3) (l.getD 0 z3) v=- dt3 (l.getD 0 z3) (l.getD (l.length-1) z3) v:=by unfold dt3;grind
  omega
 obtain ⟨i,i1,i2,i3,i4⟩:∃ i,1≤i∧i+1<l.length∧0≤dt3 (l.getD 0 z3) (l.getD i z3) v∧dt3 (l.getD 0 z3) (l.getD (i+1) z3) v≤0:=by
  have key:∀ m,1+m<l.length→0≤dt3 (l.getD 0 z3) (l.getD (1+m) z3) v∨∃ i,1≤i∧i+1<l.length∧0≤dt3 (l.getD 0 z3) (l.getD i z3) v∧dt3 (l.getD 0 z3) (l.getD (i+1) z3) v≤0:=by
   intro m
   induction m with
   | zero=>intro _;exact .inl f1
   | succ m ih =>
    intro hm
    rcases ih (by omega) with q | q
    ·by_cases c:0≤dt3 (l.getD 0 z3) (l.getD (1+(m+1)) z3) v
     ·exact .inl c
     ·exact .inr ⟨1+m,by omega,by omega,q,by rw [show 1+m+1=1+(m+1) by omega];omega⟩
    ·exact .inr q
  rcases key (l.length-3) (by omega) with q | q
  ·exact ⟨1+(l.length-3),by omega,by omega,q,by rw [show 1+(l.length-3)+1=l.length-1 by omega];exact fn⟩
  ·exact q
 have i5:0≤dt3 (l.getD i z3) (l.getD (i+1) z3) v:=by
  have:=h i (by omega)
  rwa [Nat.mod_eq_of_lt i2] at this
 have hA:=hs 0 i (i+1) (by omega) (by omega) i2
 have m0:=getD_mem3 (show 0<l.length by omega)
 have m1:=getD_mem3 (show i<l.length by omega)
 have m2:=getD_mem3 i2
 generalize l.getD 0 z3=a at *
 generalize l.getD i z3=b at *
 generalize l.getD (i+1) z3=c at *
 have e:dt3 c a v=- dt3 a c v:=by unfold dt3;grind
 have b1:=dt3_bary a b c v g
 have b2:=dt3_bary a b c v (0,0,1)
 have ld:∀ s:Spt,lev (0,0,1) s=s.2.2:=fun s=>by unfold lev;grind
 rw [ld,ld,ld,ld] at b2
 have ga:=hg a m0
 have gb:=hg b m1
 have gc:=hg c m2
 have da:=hd a m0
 have db:=hd b m1
 have dc:=hd c m2
 have pos:=Int.mul_pos hA hv
 have n1:=Int.mul_nonneg i5 (show 0≤lev g a by omega)
 have n2:=Int.mul_nonneg (show 0≤dt3 c a v by omega) (show 0≤lev g b by omega)
 have n3:=Int.mul_nonneg i3 (show 0≤lev g c by omega)
 refine Int.pos_of_mul_pos_right (a:=dt3 a b c) ?_ hA
 rw [b1]
 rcases Int.lt_or_eq_of_le i5 with q | q
 ·have:=Int.mul_pos q ga;omega
 ·rcases Int.lt_or_eq_of_le (show 0≤dt3 c a v by omega) with q2 | q2
  ·have:=Int.mul_pos q2 gb;omega
  ·rcases Int.lt_or_eq_of_le i3 with q3 | q3
   ·have:=Int.mul_pos q3 gc;omega
   ·rw [← q,← q2,← q3] at b2;omega
end Go.Proofs.YtdgabicjcepmeaaGreatDoor
namespace Go.Proofs.YtdgabicjcepmeaaGreatDoor
def Sp0 (x:Spt):Prop:=0<x.2.2∧Int.gcd (Int.gcd x.1 x.2.1) x.2.2=1
def Pq (x y:Spt):Prop:=x.1*y.2.2=y.1*x.2.2∧x.2.1*y.2.2=y.2.1*x.2.2
theorem red_eq {x y:Spt} (hx:Sp0 x) (hy:Sp0 y) (h:Pq x y):x=y:=by
 obtain ⟨a,b,d⟩:=x
 obtain ⟨a',b',e⟩:=y
 obtain ⟨h1,h2⟩:=h
 obtain ⟨d0,dr⟩:=hx
 obtain ⟨e0,er⟩:=hy
 dsimp only at *
 have p:d ∣ e:=dvd_det dr ⟨a',by rw [Int.mul_comm e a,h1,Int.mul_comm]⟩ ⟨b',by rw [Int.mul_comm e b,h2,Int.mul_comm]⟩
 have q:e ∣ d:=dvd_det er ⟨a,by rw [Int.mul_comm d a',← h1,Int.mul_comm]⟩ ⟨b,by rw [Int.mul_comm d b',← h2,Int.mul_comm]⟩
 have de:d=e:=Int.dvd_antisymm (by omega) (by omega) p q
 subst de
 have u:=Int.eq_of_mul_eq_mul_right (show d≠0 by omega) h1
 have w:=Int.eq_of_mul_eq_mul_right (show d≠0 by omega) h2
 rw [u,w]
def Two (M:List Spt) (x:Spt):Prop:=∃ A∈M,∃ B∈M,lev A x=0∧lev B x=0∧A.1*B.2.1-A.2.1*B.1≠0
def On (M:List Spt) (x y:Spt):Prop:=∃ A∈M,¬ (A.1=0∧A.2.1=0)∧lev A x=0∧lev A y=0
theorem Two.mono {M N:List Spt} {x:Spt} (h:Two M x) (hs:∀ L∈M,L∈N):Two N x:=by
 obtain ⟨A,hA,B,hB,r⟩:=h
 exact ⟨A,hs _ hA,B,hs _ hB,r⟩
theorem On.mono {M N:List Spt} {x y:Spt} (h:On M x y) (hs:∀ L∈M,L∈N):On N x y:=by
 obtain ⟨A,hA,r⟩:=h
 exact ⟨A,hs _ hA,r⟩
theorem two_pq {A B x y:Spt} (h:A.1*B.2.1-A.2.1*B.1≠0) (ax:lev A x=0) (bx:lev B x=0) (ay:lev A y=0) (bye:lev B y=0):Pq x y:=by
 unfold lev at *
 constructor
 ·have e:(A.1*B.2.1-A.2.1*B.1)*(x.1*y.2.2-y.1*x.2.2)=0:=by grind
  rcases Int.mul_eq_zero.1 e with q | q
  ·exact absurd q h
  ·omega
 ·have e:(A.1*B.2.1-A.2.1*B.1)*(x.2.1*y.2.2-y.2.1*x.2.2)=0:=by grind
  rcases Int.mul_eq_zero.1 e with q | q
  ·exact absurd q h
  ·omega
theorem two_ext {M:List Spt} {x:Spt} (h:Two M x):∃ g,lev g x=0∧∀ y,(∀ L∈M,0≤lev L y)→0≤lev g y∧(lev g y=0→Pq x y):=by
 obtain ⟨A,hA,B,hB,ax,bx,hd⟩:=h
 have e:∀ y,lev (A.1+B.1,A.2.1+B.2.1,A.2.2+B.2.2) y=lev A y+lev B y:=fun y=>by unfold lev;grind
 refine ⟨_,by rw [e,ax,bx];rfl,fun y hy=>?_⟩
 have p:=hy A hA
 have q:=hy B hB
 rw [e]
 exact ⟨by omega,fun z=>two_pq hd ax bx (by omega) (by omega)⟩
theorem sgn2 {b c p q:Int} (hp:0<p) (hq:0<q) (h:b*p+c*q=0):(0<b→c<0)∧(b<0→0<c)∧(b=0→c=0):=by
 have F:∀ c:Int,0<c→0<c*q:=fun c hc=>Int.mul_pos hc hq
 have G:∀ b:Int,0<b→0<b*p:=fun b hb=>Int.mul_pos hb hp
 refine ⟨fun hb=>?_,fun hb=>?_,fun hb=>?_⟩
 ·have g:=G b hb
  by_cases c0:c<0
  ·exact c0
  ·have:=Int.mul_nonneg (show 0≤c by omega) (show 0≤q by omega);omega
 ·have g:=G (-b) (by omega)
  rw [Int.neg_mul] at g
  by_cases c0:0<c
  ·exact c0
  ·have:=Int.mul_nonneg (show 0≤-c by omega) (show 0≤q by omega);rw [Int.neg_mul] at this;omega
 ·rw [hb,Int.zero_mul,Int.zero_add] at h
  rcases Int.mul_eq_zero.1 h with x | x
  ·exact x
  ·omega
theorem no3 {M:List Spt} {x y z:Spt} (hx:Two M x) (hy:Two M y) (hz:Two M z) (lx:∀ L∈M,0≤lev L x) (ly:∀ L∈M,0≤lev L y) (lz:∀ L∈M,0≤lev L z) (xy:¬ Pq x y) (yz:¬ Pq y z) (xz:¬ Pq x z):dt3 x y z≠0:=by
 intro h
 have sy:∀ {a b:Spt},Pq a b→Pq b a:=fun h=>⟨h.1.symm,h.2.symm⟩
 obtain ⟨g1,a1,b1⟩:=two_ext hx
 obtain ⟨g2,a2,b2⟩:=two_ext hy
 obtain ⟨g3,a3,b3⟩:=two_ext hz
 have pos:∀ {g a b:Spt},(0≤lev g b∧(lev g b=0→Pq a b))→¬ Pq a b→0<lev g b:=fun h n=>by
  rcases Int.lt_or_eq_of_le h.1 with q | q
  ·exact q
  ·exact absurd (h.2 q.symm) n
 have p12:=pos (b1 y ly) xy
 have p13:=pos (b1 z lz) xz
 have p21:=pos (b2 x lx) (fun e=>xy (sy e))
 have p23:=pos (b2 z lz) yz
 have p31:=pos (b3 x lx) (fun e=>xz (sy e))
 have p32:=pos (b3 y ly) (fun e=>yz (sy e))
 have key:∀ w,dt3 x y w=0:=fun w=>by
  have e1:=dt3_bary x y z w g1
  have e2:=dt3_bary x y z w g2
  have e3:=dt3_bary x y z w g3
  rw [h,Int.zero_mul] at e1 e2 e3
  rw [a1,Int.mul_zero,Int.zero_add] at e1
  rw [a2,Int.mul_zero,Int.add_zero] at e2
  rw [a3,Int.mul_zero,Int.add_zero] at e3
  have s1:=sgn2 p12 p13 e1.symm
  have s2:=sgn2 p21 p23 e2.symm
  have s3:=sgn2 p31 p32 e3.symm
  omega
 apply xy
 have k1:=key (1,0,0)
 have k2:=key (0,1,0)
 unfold dt3 at k1 k2
 dsimp only at k1 k2
 exact ⟨by grind,by grind⟩
def Sgm (L:Spt) (s n:Spt):Prop:=(0<lev L s∧lev L n<0)∨(lev L s<0∧0<lev L n)
theorem adS_in {l:List Spt} {s x:Spt}:x∈adS l s↔x∈l∨x=s:=by
 refine ⟨adS_mem,fun h=>?_⟩
 rcases adS_cases l s with ⟨a,q⟩ | ⟨_,q⟩
 ·rw [q]
  rcases h with h | h
  ·exact h
  ·rw [h];exact List.mem_of_getLast? a
 ·rw [q]
  rcases h with h | h<;>simp [h]
theorem clS_in {L:Spt} {o:List Spt} {s n x:Spt}:x∈clS L o s n↔x∈o∨(0≤lev L s∧x=s)∨(Sgm L s n∧x=crS (lev L s) (lev L n) s n):=by
 unfold clS
 dsimp only
 have e:x∈(if 0≤lev L s then adS o s else o)↔x∈o∨(0≤lev L s∧x=s):=by
  split
  ·rename_i h;rw [adS_in];simp [h]
  ·rename_i h;simp [h]
 split
 ·rename_i h;rw [adS_in,e]
  have:Sgm L s n:=h
  simp [this,or_assoc]
 ·rename_i h;rw [e]
  have:¬ Sgm L s n:=h
  simp [this]
theorem clN_in {L:Spt} {l:List Spt} {x:Spt}:∀ k,x∈clN L l k↔∃ i,i<k∧((0≤lev L (l.getD i z3)∧x=l.getD i z3)∨(Sgm L (l.getD i z3) (l.getD ((i+1) % l.length) z3)∧x=crS (lev L (l.getD i z3)) (lev L (l.getD ((i+1) % l.length) z3)) (l.getD i z3) (l.getD ((i+1) % l.length) z3)))
 | 0=>by simp [clN]
 | k+1=>by
  unfold clN
  rw [clS_in,clN_in k]
  constructor
  ·rintro (⟨i,h1,h2⟩ | h)
   ·exact ⟨i,by omega,h2⟩
   ·exact ⟨k,by omega,h⟩
  ·rintro ⟨i,h1,h2⟩
   by_cases e:i=k
   ·subst e;exact .inr h2
   ·exact .inl ⟨i,by omega,h2⟩
end Go.Proofs.YtdgabicjcepmeaaGreatDoor
namespace Go.Proofs.YtdgabicjcepmeaaGreatDoor
def Str (l:List Spt):Prop:=∀ i j k,i<j→j<k→k<l.length→0<dt3 (l.getD i z3) (l.getD j z3) (l.getD k z3)
theorem str_edge {l:List Spt} (h:Str l) {i j:Nat} (hi:i<l.length) (hj:j<l.length) (h1:j≠i) (h2:j≠(i+1) % l.length):0<dt3 (l.getD i z3) (l.getD ((i+1) % l.length) z3) (l.getD j z3):=by
 by_cases e:i+1<l.length
 ·rw [Nat.mod_eq_of_lt e] at h2 ⊢
  by_cases c1:j<i
  ·rw [dt3_rot];exact h j i (i+1) c1 (by omega) e
  ·exact h i (i+1) j (by omega) (by omega) hj
 ·rw [show i+1=l.length by omega,Nat.mod_self] at h2 ⊢
  rw [dt3_rot,dt3_rot];exact h 0 j i (by omega) (by omega) hi
theorem Str.tri {l:List Spt} (h:Str l):TriL l:=fun i j k a b c=>by have:=h i j k a b c;omega
theorem third {n:Nat} (h:3≤n) (a b:Nat):∃ k,k<n∧k≠a∧k≠b:=by
 by_cases a0:0≠a∧0≠b
 ·exact ⟨0,by omega,a0.1,a0.2⟩
 by_cases a1:1≠a∧1≠b
 ·exact ⟨1,by omega,a1.1,a1.2⟩
 ·exact ⟨2,by omega,by omega,by omega⟩
theorem nxt_ne {n i:Nat} (h:3≤n) (hi:i<n):(i+1) % n≠i:=by
 by_cases e:i+1<n
 ·rw [Nat.mod_eq_of_lt e];omega
 ·rw [show i+1=n by omega,Nat.mod_self];omega
theorem nxt2_ne {n i:Nat} (h:3≤n) (hi:i<n):((i+1) % n+1) % n≠i:=by
 by_cases e:i+1<n
 ·rw [Nat.mod_eq_of_lt e]
  by_cases e2:i+1+1<n
  ·rw [Nat.mod_eq_of_lt e2];omega
  ·rw [show i+1+1=n by omega,Nat.mod_self];omega
 ·rw [show i+1=n by omega,Nat.mod_self,Nat.mod_eq_of_lt (by omega)];omega
theorem str_inj {l:List Spt} (h3:3≤l.length) (h:Str l) {i j:Nat} (hi:i<l.length) (hj:j<l.length) (hij:i≠j):l.getD i z3≠l.getD j z3:=by
 intro e
 by_cases c:j=(i+1) % l.length
 ·obtain ⟨k,hk,k1,k2⟩:=third h3 i j
  have:=str_edge h hi hk k1 (by omega)
  rw [← c,← e,dt3_self1] at this
  omega
 ·have:=str_edge h hi hj (fun x=>hij x.symm) c
  rw [← e,dt3_self3] at this
  omega
theorem mix_pos {s t c x y:Spt} (h:Mix s t c) (h1:0≤dt3 x y s) (h2:0≤dt3 x y t) (h3:0<dt3 x y s∨0<dt3 x y t):0<dt3 x y c:=by
 obtain ⟨k,p,q,hk,hp,hq,e1,e2,e3⟩:=h.ex
 have e:k*dt3 x y c=p*dt3 x y s+q*dt3 x y t:=by unfold dt3;grind
 have a:=Int.mul_nonneg (show 0≤p by omega) h1
 have b:=Int.mul_nonneg (show 0≤q by omega) h2
 have:0<k*dt3 x y c:=by
  rw [e]
  rcases h3 with z | z
  ·have:=Int.mul_pos hp z;omega
  ·have:=Int.mul_pos hq z;omega
 exact Int.pos_of_mul_pos_right this hk
def cro (L:Spt) (l:List Spt) (i:Nat):Spt:=crS (lev L (l.getD i z3)) (lev L (l.getD ((i+1) % l.length) z3)) (l.getD i z3) (l.getD ((i+1) % l.length) z3)
def SgN (L:Spt) (l:List Spt) (i:Nat):Prop:=Sgm L (l.getD i z3) (l.getD ((i+1) % l.length) z3)
theorem clN_mem {L:Spt} {l:List Spt} {x:Spt} (k:Nat):x∈clN L l k↔∃ i,i<k∧((0≤lev L (l.getD i z3)∧x=l.getD i z3)∨(SgN L l i∧x=cro L l i)):=clN_in k
theorem cro_mix {L:Spt} {l:List Spt} {i:Nat} (hd:∀ x∈l,0<x.2.2) (hi:i<l.length) (h:SgN L l i):Mix (l.getD i z3) (l.getD ((i+1) % l.length) z3) (cro L l i)∧lev L (cro L l i)=0:=by
 have hn:(i+1) % l.length<l.length:=Nat.mod_lt _ (by omega)
 exact ⟨crS_mix (hd _ (getD_mem3 hi)) (hd _ (getD_mem3 hn)) h,crS_on L (hd _ (getD_mem3 hi)) (hd _ (getD_mem3 hn)) h⟩
theorem cro_edge {L:Spt} {l:List Spt} {i:Nat} (hd:∀ x∈l,0<x.2.2) (hi:i<l.length) (h:SgN L l i):dt3 (l.getD i z3) (l.getD ((i+1) % l.length) z3) (cro L l i)=0:=by
 have:=mix_col (cro_mix hd hi h).1
 have e:∀ a b c:Spt,dt3 a b c=- dt3 a c b:=fun a b c=>by unfold dt3;grind
 rw [e];omega
theorem cro_ne {L:Spt} {l:List Spt} {i j:Nat} (h3:3≤l.length) (hs:Str l) (hd:∀ x∈l,0<x.2.2) (hi:i<l.length) (hj:j<l.length) (h:SgN L l i):cro L l i≠l.getD j z3:=by
 intro e
 have z:=(cro_mix hd hi h).2
 by_cases c1:j=i
 ·rw [e,c1] at z;unfold SgN Sgm at h;omega
 ·by_cases c2:j=(i+1) % l.length
  ·rw [e,c2] at z;unfold SgN Sgm at h;omega
  ·have:=str_edge hs hi hj c1 c2
   have q:=cro_edge hd hi h
   rw [e] at q
   omega
theorem cro_inj {L:Spt} {l:List Spt} {i j:Nat} (h3:3≤l.length) (hs:Str l) (hd:∀ x∈l,0<x.2.2) (hi:i<l.length) (hj:j<l.length) (h:SgN L l i) (h':SgN L l j) (hij:i≠j):cro L l i≠cro L l j:=by
 intro e
 have q:=cro_edge hd hj h'
 rw [← e] at q
 have hn:(i+1) % l.length<l.length:=Nat.mod_lt _ (by omega)
 have:=mix_pos (cro_mix hd hi h).1 (tri_edge hs.tri hj hi) (tri_edge hs.tri hj hn) (by
  by_cases c:i=(j+1) % l.length
  ·right
   refine str_edge hs hj hn ?_ (by rw [← c];exact nxt_ne h3 hi)
   rw [c];exact nxt2_ne h3 hj
  ·left
   exact str_edge hs hj hi hij c)
 omega
theorem adS_new {l:List Spt} {s:Spt} (h:l.Nodup) (hs:s∉l):(adS l s).Nodup:=by
 rcases adS_cases l s with ⟨a,q⟩ | ⟨_,q⟩
 ·exact absurd (List.mem_of_getLast? a) hs
 ·rw [q]
  refine List.nodup_append.2 ⟨h,by simp,fun a ha b hb e=>?_⟩
  rw [List.mem_singleton] at hb
  subst hb
  subst e
  exact hs ha
theorem clN_nodup {L:Spt} {l:List Spt} (h3:3≤l.length) (hs:Str l) (hd:∀ x∈l,0<x.2.2):∀ k,k≤l.length→(clN L l k).Nodup
 | 0,_=>by simp [clN]
 | k+1,hk=>by
  have ih:=clN_nodup (L:=L) h3 hs hd k (by omega)
  have n1:l.getD k z3∉clN L l k:=fun h=>by
   obtain ⟨i,hi,⟨_,e⟩ | ⟨e1,e⟩⟩:=(clN_mem k).1 h
   ·exact str_inj h3 hs (show k<l.length by omega) (show i<l.length by omega) (by omega) e
   ·exact cro_ne h3 hs hd (show i<l.length by omega) (show k<l.length by omega) e1 e.symm
  have i2:(if 0≤lev L (l.getD k z3) then adS (clN L l k) (l.getD k z3) else clN L l k).Nodup:=by
   split
   ·exact adS_new ih n1
   ·exact ih
  unfold clN clS
  dsimp only
  split
  ·rename_i hx
   refine adS_new i2 fun h=>?_
   have n2:cro L l k∉clN L l k:=fun h=>by
    obtain ⟨i,hi,⟨_,e⟩ | ⟨e1,e⟩⟩:=(clN_mem k).1 h
    ·exact cro_ne h3 hs hd (show k<l.length by omega) (show i<l.length by omega) hx e
    ·exact cro_inj h3 hs hd (show k<l.length by omega) (show i<l.length by omega) hx e1 (by omega) e
   split at h
   ·rcases adS_in.1 h with h | h
    ·exact n2 h
    ·exact cro_ne h3 hs hd (show k<l.length by omega) (show k<l.length by omega) hx h
   ·exact n2 h
  ·exact i2
theorem three_mem {l:List Spt} {x y z:Spt} (hx:x∈l) (hy:y∈l) (hz:z∈l) (xy:x≠y) (yz:y≠z) (xz:x≠z):3≤l.length:=by
 match l,hx,hy,hz with
 | [],hx,_,_=>cases hx
 | [a],hx,hy,_=>simp at hx hy;rw [hx,hy] at xy;exact absurd rfl xy
 | [a,b],hx,hy,hz =>
  simp at hx hy hz
  rcases hx with rfl | rfl<;>rcases hy with rfl | rfl<;>rcases hz with rfl | rfl<;>simp_all
 | a::b::c::t,_,_,_=>simp
structure SCP (M l:List Spt):Prop where
 n3:3≤l.length
 sp:∀ x∈l,Sp0 x
 st:Str l
 on:Rnd (On M) l
 tw:∀ x∈l,Two M x
 lf:∀ L∈M,∀ x∈l,0≤lev L x
theorem nd_str {M l:List Spt} (hn:l.Nodup) (ht:TriL l) (sp:∀ x∈l,Sp0 x) (tw:∀ x∈l,Two M x) (lf:∀ L∈M,∀ x∈l,0≤lev L x):Str l:=by
 intro i j k hij hjk hk
 have ne:∀ a b,a<l.length→b<l.length→a≠b→¬ Pq (l.getD a z3) (l.getD b z3):=fun a b ha hb hab h=>by
  have e:=red_eq (sp _ (getD_mem3 ha)) (sp _ (getD_mem3 hb)) h
  have g:∀ c (hc:c<l.length),l.getD c z3=l[c]:=fun c hc=>by simp [List.getD,hc]
  rw [g a ha,g b hb] at e
  exact hab ((List.getElem_inj hn).1 e)
 have m:∀ a,a<l.length→Two M (l.getD a z3)∧∀ L∈M,0≤lev L (l.getD a z3):=fun a ha=>⟨tw _ (getD_mem3 ha),fun L hL=>lf L hL _ (getD_mem3 ha)⟩
 have a:=m i (by omega)
 have b:=m j (by omega)
 have c:=m k hk
 have:=no3 a.1 b.1 c.1 a.2 b.2 c.2 (ne i j (by omega) (by omega) (by omega)) (ne j k (by omega) hk (by omega)) (ne i k (by omega) hk (by omega))
 have:=ht i j k hij hjk hk
 omega
theorem par_lev {A L s t:Spt} (a0:¬ (A.1=0∧A.2.1=0)) (ea:lev A s=0) (et:lev A t=0) (h:A.1*L.2.1-A.2.1*L.1=0):t.2.2*lev L s=s.2.2*lev L t:=by
 unfold lev at *
 have u1:A.1*(t.2.2*(L.1*s.1+L.2.1*s.2.1+L.2.2*s.2.2)-s.2.2*(L.1*t.1+L.2.1*t.2.1+L.2.2*t.2.2))=0:=by grind
 have u2:A.2.1*(t.2.2*(L.1*s.1+L.2.1*s.2.1+L.2.2*s.2.2)-s.2.2*(L.1*t.1+L.2.1*t.2.1+L.2.2*t.2.2))=0:=by grind
 rcases Int.mul_eq_zero.1 u1 with q | q
 ·rcases Int.mul_eq_zero.1 u2 with r | r
  ·exact absurd ⟨q,r⟩ a0
  ·omega
 ·omega
theorem sg_par {A L s t:Spt} (a0:¬ (A.1=0∧A.2.1=0)) (ea:lev A s=0) (et:lev A t=0) (hs:0<s.2.2) (ht:0<t.2.2) (h:Sgm L s t):L.1*A.2.1-L.2.1*A.1≠0:=by
 intro e
 have p:=par_lev a0 ea et (L:=L) (by grind)
 rcases h with ⟨a,b⟩ | ⟨a,b⟩
 ·have x:=Int.mul_pos ht a
  have y:=Int.mul_pos hs (show 0 < -lev L t by omega)
  rw [Int.mul_neg] at y;omega
 ·have x:=Int.mul_pos hs b
  have y:=Int.mul_pos ht (show 0 < -lev L s by omega)
  rw [Int.mul_neg] at y;omega
theorem SCP.d {M l:List Spt} (h:SCP M l):∀ x∈l,0<x.2.2:=fun x hx=>(h.sp x hx).1
theorem prev_of {n i:Nat} (h:3≤n) (hi:i<n):∃ j,j<n∧(j+1) % n=i∧j≠i∧j≠(i+1) % n:=by
 by_cases e:i=0
 ·subst e
  refine ⟨n-1,by omega,by rw [show n-1+1=n by omega,Nat.mod_self],by omega,by rw [Nat.mod_eq_of_lt (by omega)];omega⟩
 ·refine ⟨i-1,by omega,by rw [show i-1+1=i by omega,Nat.mod_eq_of_lt hi],by omega,?_⟩
  by_cases c:i+1<n
  ·rw [Nat.mod_eq_of_lt c];omega
  ·rw [show i+1=n by omega,Nat.mod_self];omega
theorem SCP.three {M l:List Spt} {L z:Spt} (h:SCP M l) (hz:z∈l) (hz0:0<lev L z):3≤(clR L l).length:=by
 obtain ⟨i,hi,e⟩:=List.getElem_of_mem hz
 have ez:z=l.getD i z3:=by rw [← e];simp [List.getD,hi]
 obtain ⟨j,hj,j1,j2,j3⟩:=prev_of h.n3 hi
 have hn:(i+1) % l.length<l.length:=Nat.mod_lt _ (by omega)
 have mz:z∈clR L l:=(clN_mem _).2 ⟨i,hi,.inl ⟨by rw [← ez];omega,ez⟩⟩
 obtain ⟨u,mu,hu⟩:∃ u∈clR L l,u=l.getD ((i+1) % l.length) z3∨Mix z (l.getD ((i+1) % l.length) z3) u:=by
  by_cases c:0≤lev L (l.getD ((i+1) % l.length) z3)
  ·exact ⟨_,(clN_mem _).2 ⟨_,hn,.inl ⟨c,rfl⟩⟩,.inl rfl⟩
  ·have sg:SgN L l i:=.inl ⟨by rw [← ez];exact hz0,by omega⟩
   refine ⟨cro L l i,(clN_mem _).2 ⟨i,hi,.inr ⟨sg,rfl⟩⟩,.inr ?_⟩
   rw [ez];exact (cro_mix h.d hi sg).1
 obtain ⟨w,mw,hw⟩:∃ w∈clR L l,w=l.getD j z3∨Mix (l.getD j z3) z w:=by
  by_cases c:0≤lev L (l.getD j z3)
  ·exact ⟨_,(clN_mem _).2 ⟨j,hj,.inl ⟨c,rfl⟩⟩,.inl rfl⟩
  ·have sg:SgN L l j:=.inr ⟨by omega,by rw [j1,← ez];exact hz0⟩
   refine ⟨cro L l j,(clN_mem _).2 ⟨j,hj,.inr ⟨sg,rfl⟩⟩,.inr ?_⟩
   have:=(cro_mix h.d hj sg).1
   rw [j1,← ez] at this
   exact this
 have p0:=str_edge h.st hi hj j2 j3
 rw [← ez] at p0
 generalize l.getD ((i+1) % l.length) z3=t at *
 generalize l.getD j z3=s at *
 have p1:0<dt3 z u s:=by
  rcases hu with rfl | hm
  ·exact p0
  ·obtain ⟨k,p,q,hk,hp,hq,e1,e2,e3⟩:=hm.ex
   have e:k*dt3 z u s=q*dt3 z t s:=by unfold dt3;grind
   exact Int.pos_of_mul_pos_right (a:=k) (by rw [e];exact Int.mul_pos hq p0) hk
 have p2:0<dt3 z u w:=by
  rcases hw with rfl | hm
  ·exact p1
  ·obtain ⟨k,p,q,hk,hp,hq,e1,e2,e3⟩:=hm.ex
   have e:k*dt3 z u w=p*dt3 z u s:=by unfold dt3;grind
   exact Int.pos_of_mul_pos_right (a:=k) (by rw [e];exact Int.mul_pos hp p1) hk
 refine three_mem mz mu mw (fun e=>?_) (fun e=>?_) (fun e=>?_)
 ·rw [e,dt3_self1] at p2;omega
 ·rw [e,dt3_self2] at p2;omega
 ·rw [e,dt3_self3] at p2;omega
theorem SCP.clip {M l:List Spt} {L z:Spt} (h:SCP M l) (l0:¬ (L.1=0∧L.2.1=0)) (hz:z∈l) (hz0:0<lev L z):SCP (L::M) (clR L l):=by
 have sp:∀ x∈clR L l,Sp0 x:=clR_all L (Q:=Sp0) (fun s t c hs ht hm=>⟨mix_d hs.1 ht.1 hm,hm.red⟩) (fun x hx=>hx.1) h.sp
 have mo:∀ K∈M,K∈L::M:=fun K hK=>List.mem_cons_of_mem _ hK
 have lf:∀ K∈L::M,∀ x∈clR L l,0≤lev K x:=by
  intro K hK
  rcases List.mem_cons.1 hK with rfl | hK
  ·exact clN_left K h.d l.length (Nat.le_refl _)
  ·intro x hx
   exact (clR_all L (Q:=fun x=>0<x.2.2∧0≤lev K x) (fun s t c hs ht hm=>⟨mix_d hs.1 ht.1 hm,hm.nn K hs.2 ht.2⟩) (fun x hx=>hx.1) (fun x hx=>⟨h.d x hx,h.lf K hK x hx⟩) x hx).2
 have tw:∀ x∈clR L l,Two (L::M) x:=by
  intro x hx
  obtain ⟨i,hi,⟨_,e⟩ | ⟨e1,e⟩⟩:=(clN_mem _).1 hx
  ·rw [e];exact (h.tw _ (getD_mem3 hi)).mono mo
  ·have hn:(i+1) % l.length<l.length:=Nat.mod_lt _ (by omega)
   obtain ⟨A,hA,a0,a1,a2⟩:=h.on i hi
   obtain ⟨m1,m2⟩:=cro_mix h.d hi e1
   rw [e]
   exact ⟨L,by simp,A,mo A hA,m2,m1.zero A a1 a2,sg_par a0 a1 a2 (h.d _ (getD_mem3 hi)) (h.d _ (getD_mem3 hn)) e1⟩
 refine ⟨h.three hz hz0,sp,nd_str (clN_nodup h.n3 h.st h.d _ (Nat.le_refl _)) (clR_tri L h.d h.st.tri) sp tw lf,?_,tw,lf⟩
 exact clR_rnd (E':=On M) h.d h.on (fun a b ha hb=>⟨L,by simp,l0,ha,hb⟩) (fun s n hs=>hs.mono mo) (fun s n c hs hm=>by
  obtain ⟨A,hA,a0,a1,a2⟩:=hs
  have a3:=hm.zero A a1 a2
  exact ⟨⟨A,mo A hA,a0,a1,a3⟩,⟨A,mo A hA,a0,a3,a2⟩⟩)
end Go.Proofs.YtdgabicjcepmeaaGreatDoor
namespace Go.Proofs.YtdgabicjcepmeaaGreatDoor
theorem inside3 {l:List Spt} {v:Spt} (h3:3≤l.length) (hs:Str l) (h:InP l v):∃ a∈l,∃ b∈l,∃ c∈l,0<dt3 a b c∧0≤dt3 b c v∧0≤dt3 c a v∧0≤dt3 a b v:=by
 have f1:0≤dt3 (l.getD 0 z3) (l.getD 1 z3) v:=by
  have:=h 0 (by omega)
  rwa [Nat.mod_eq_of_lt (show 0+1<l.length by omega)] at this
 have fn:dt3 (l.getD 0 z3) (l.getD (l.length-1) z3) v≤0:=by
  have:=h (l.length-1) (by omega)
  rw [show l.length-1+1=l.length by omega,Nat.mod_self] at this
  have e:dt3 (l.getD (l.length-1) z3) (l.getD 0 z3) v=- dt3 (l.getD 0 z3) (l.getD (l.length-1) z3) v:=by unfold dt3;grind
  omega
 obtain ⟨i,i1,i2,i3,i4⟩:∃ i,1≤i∧i+1<l.length∧0≤dt3 (l.getD 0 z3) (l.getD i z3) v∧dt3 (l.getD 0 z3) (l.getD (i+1) z3) v≤0:=by
  have key:∀ m,1+m<l.length→0≤dt3 (l.getD 0 z3) (l.getD (1+m) z3) v∨∃ i,1≤i∧i+1<l.length∧0≤dt3 (l.getD 0 z3) (l.getD i z3) v∧dt3 (l.getD 0 z3) (l.getD (i+1) z3) v≤0:=by
   intro m
   induction m with
   | zero=>intro _;exact .inl f1
   | succ m ih =>
    intro hm
    rcases ih (by omega) with q | q
    ·by_cases c:0≤dt3 (l.getD 0 z3) (l.getD (1+(m+1)) z3) v
     ·exact .inl c
     ·exact .inr ⟨1+m,by omega,by omega,q,by rw [show 1+m+1=1+(m+1) by omega];omega⟩
    ·exact .inr q
  rcases key (l.length-3) (by omega) with q | q
  ·exact ⟨1+(l.length-3),by omega,by omega,q,by rw [show 1+(l.length-3)+1=l.length-1 by omega];exact fn⟩
  ·exact q
 have i5:0≤dt3 (l.getD i z3) (l.getD (i+1) z3) v:=by
  have:=h i (by omega)
  rwa [Nat.mod_eq_of_lt i2] at this
 refine ⟨_,getD_mem3 (show 0<l.length by omega),_,getD_mem3 (show i<l.length by omega),_,getD_mem3 i2,hs 0 i (i+1) (by omega) (by omega) i2,i5,?_,i3⟩
 have e:dt3 (l.getD (i+1) z3) (l.getD 0 z3) v=- dt3 (l.getD 0 z3) (l.getD (i+1) z3) v:=by unfold dt3;grind
 omega
theorem in_weak {l:List Spt} {v g:Spt} (h3:3≤l.length) (hs:Str l) (h:InP l v) (hg:∀ x∈l,0≤lev g x):0≤lev g v:=by
 obtain ⟨a,ha,b,hb,c,hc,p,q1,q2,q3⟩:=inside3 h3 hs h
 have e:=dt3_bary a b c v g
 have n1:=Int.mul_nonneg q1 (hg a ha)
 have n2:=Int.mul_nonneg q2 (hg b hb)
 have n3:=Int.mul_nonneg q3 (hg c hc)
 exact Int.nonneg_of_mul_nonneg_right (a:=dt3 a b c) (by rw [e];omega) p
theorem in_strict {l:List Spt} {v g:Spt} (h3:3≤l.length) (hd:∀ x∈l,0<x.2.2) (hs:Str l) (hv:0<v.2.2) (h:InP l v) (hg:∀ x∈l,0<lev g x):0<lev g v:=inside h3 hd hs hv h hg
theorem cut_all {M0 l:List Spt} (h0:SCP M0 l):∀ Ls:List Spt,(∀ L∈Ls,¬ (L.1=0∧L.2.1=0)) →
  (SCP (Ls++M0) (clL Ls l)∧∀ v,0<v.2.2→InP l v→(∀ L∈Ls,0≤lev L v)→InP (clL Ls l) v) ∨
  (∃ L∈Ls,(∀ x∈clL Ls l,0<x.2.2∧lev L x=0)∧∀ v,0<v.2.2→InP l v→(∀ K∈Ls,0≤lev K v)→lev L v=0)
 | [],_=>.inl ⟨h0,fun v _ h _=>h⟩
 | L::Ls,hn=>by
  rcases cut_all h0 Ls (fun K hK=>hn K (List.mem_cons_of_mem _ hK)) with ⟨h,hi⟩ | ⟨K,hK,hz,hv⟩
  ·by_cases c:∃ z∈clL Ls l,0<lev L z
   ·obtain ⟨z,hz,hz0⟩:=c
    left
    refine ⟨h.clip (hn L (by simp)) hz hz0,fun v dv hp hl=>?_⟩
    have mz:z∈clR L (clL Ls l):=by
     obtain ⟨i,hi,e⟩:=List.getElem_of_mem hz
     have ez:z=(clL Ls l).getD i z3:=by rw [← e];simp [List.getD,hi]
     exact (clN_mem _).2 ⟨i,hi,.inl ⟨by rw [← ez];omega,ez⟩⟩
    exact clR_in h.d h.st.tri (hi v dv hp fun K hK=>hl K (List.mem_cons_of_mem _ hK)) (hl L (by simp)) mz hz0
   ·right
    have c:∀ z∈clL Ls l,lev L z≤0:=fun z hz=>by
     by_cases q:lev L z≤0
     ·exact q
     ·exact absurd ⟨z,hz,by omega⟩ c
    refine ⟨L,by simp,fun x hx=>?_,fun v dv hp hl=>?_⟩
    ·have a:0≤lev L x:=clN_left L h.d _ (Nat.le_refl _) x hx
     have b:=clR_all L (Q:=fun x=>0<x.2.2∧0≤lev (neg3 L) x) (fun s t c hs ht hm=>⟨mix_d hs.1 ht.1 hm,hm.nn _ hs.2 ht.2⟩) (fun x hx=>hx.1) (fun x hx=>⟨h.d x hx,by have:=c x hx;rw [lev_neg];omega⟩) x hx
     rw [lev_neg] at b
     exact ⟨b.1,by omega⟩
    ·have p:=hi v dv hp fun K hK=>hl K (List.mem_cons_of_mem _ hK)
     have q:=in_weak (g:=neg3 L) h.n3 h.st p (fun x hx=>by have:=c x hx;rw [lev_neg];omega)
     have:=hl L (by simp)
     rw [lev_neg] at q
     omega
  ·right
   refine ⟨K,List.mem_cons_of_mem _ hK,fun x hx=>?_,fun v dv hp hl=>hv v dv hp fun K hK=>hl K (List.mem_cons_of_mem _ hK)⟩
   exact clR_all L (Q:=fun x=>0<x.2.2∧lev K x=0) (fun s t c hs ht hm=>⟨mix_d hs.1 ht.1 hm,hm.zero _ hs.2 ht.2⟩) (fun x hx=>hx.1) hz x hx
end Go.Proofs.YtdgabicjcepmeaaGreatDoor
namespace Go.Proofs.YtdgabicjcepmeaaGreatDoor
theorem pq_rp {x y:Spt} (hx:0<x.2.2) (hy:0<y.2.2):Pq x y↔rp x=rp y:=by
 obtain ⟨a1,a2,a3⟩:=rp_mul hx
 obtain ⟨b1,b2,b3⟩:=rp_mul hy
 have m:=Rat.mul_pos a3 b3
 have m0:(x.2.2:Rat)*(y.2.2:Rat)≠0:=by grind
 constructor
 ·rintro ⟨h1,h2⟩
  have g1:((x.1*y.2.2:Int):Rat)=((y.1*x.2.2:Int):Rat):=by rw [h1]
  have g2:((x.2.1*y.2.2:Int):Rat)=((y.2.1*x.2.2:Int):Rat):=by rw [h2]
  rw [Rat.intCast_mul,Rat.intCast_mul] at g1 g2
  rw [a1,b1] at g1
  rw [a2,b2] at g2
  refine Prod.ext (qcancel m0 ?_) (qcancel m0 ?_)
  ·grind
  ·grind
 ·intro e
  rw [e] at a1 a2
  constructor
  ·apply Rat.intCast_inj.1
   rw [Rat.intCast_mul,Rat.intCast_mul,a1,b1];grind
  ·apply Rat.intCast_inj.1
   rw [Rat.intCast_mul,Rat.intCast_mul,a2,b2];grind
theorem dt3_pos {p q r p' q' r':Spt} (hp:0<p.2.2) (hq:0<q.2.2) (hr:0<r.2.2) (hp':0<p'.2.2) (hq':0<q'.2.2) (hr':0<r'.2.2) (ep:rp p=rp p') (eq:rp q=rp q') (er:rp r=rp r') (h:0<dt3 p q r):0<dt3 p' q' r':=by
 have e:=dt3_dtr hp hq hr
 have e':=dt3_dtr hp' hq' hr'
 rw [← ep,← eq,← er] at e'
 obtain ⟨_,_,a3⟩:=rp_mul hp
 obtain ⟨_,_,b3⟩:=rp_mul hq
 obtain ⟨_,_,c3⟩:=rp_mul hr
 obtain ⟨_,_,a3'⟩:=rp_mul hp'
 obtain ⟨_,_,b3'⟩:=rp_mul hq'
 obtain ⟨_,_,c3'⟩:=rp_mul hr'
 have m:=Rat.mul_pos (Rat.mul_pos a3 b3) c3
 have m':=Rat.mul_pos (Rat.mul_pos a3' b3') c3'
 generalize dtr (rp p) (rp q) (rp r)=D at *
 have hz:((0:Int):Rat)=0:=rfl
 have h1:(0:Rat)<((dt3 p q r:Int):Rat):=by rw [← hz];exact Rat.intCast_lt_intCast.2 h
 have hD:0<D:=by
  refine Rat.not_le.1 fun hl=>?_
  have:=Rat.mul_nonneg (show (0:Rat)≤(p.2.2:Rat)*(q.2.2:Rat)*(r.2.2:Rat) by grind) (show 0≤-D by grind)
  grind
 have h2:=Rat.mul_pos m' hD
 rw [← e',← hz] at h2
 exact Rat.intCast_lt_intCast.1 h2
structure Crn (M V:List Spt):Prop where
 sp:∀ v∈V,0<v.2.2
 tw:∀ v∈V,Two M v
 lf:∀ v∈V,∀ L∈M,0≤lev L v
 pw:V.Pairwise fun a b=>¬ Pq a b
 all:∀ x,0<x.2.2→Two M x→(∀ L∈M,0≤lev L x)→∃ v∈V,Pq x v
theorem scp_rp {M C:List Spt} (h:SCP M C) {i j:Nat} (hi:i<C.length) (hj:j<C.length) (e:rp (C.getD i z3)=rp (C.getD j z3)):i=j:=by
 by_cases c:i=j
 ·exact c
 ·exact absurd (red_eq (h.sp _ (getD_mem3 hi)) (h.sp _ (getD_mem3 hj)) ((pq_rp (h.d _ (getD_mem3 hi)) (h.d _ (getD_mem3 hj))).2 e)) (str_inj h.n3 h.st hi hj c)
theorem mem_getD3 {l:List Spt} {x:Spt} (h:x∈l):∃ j,j<l.length∧x=l.getD j z3:=by
 obtain ⟨j,hj,e⟩:=List.getElem_of_mem h
 exact ⟨j,hj,by rw [← e];simp [List.getD,hj]⟩
theorem crn_to {M C V:List Spt} (h:SCP M C) (hv:Crn M V):∀ x∈C,∃ v∈V,rp x=rp v:=fun x hx=>by
 obtain ⟨v,m,e⟩:=hv.all x (h.d x hx) (h.tw x hx) (fun L hL=>h.lf L hL x hx)
 exact ⟨v,m,(pq_rp (h.d x hx) (hv.sp v m)).1 e⟩
theorem crn_of {M C V:List Spt} (h:SCP M C) (hv:Crn M V) (hi:∀ v∈V,InP C v):∀ v∈V,∃ i,i<C.length∧rp v=rp (C.getD i z3):=fun v m=>by
 by_cases c:∃ i,i<C.length∧rp v=rp (C.getD i z3)
 ·exact c
 ·obtain ⟨g,g0,g1⟩:=two_ext (hv.tw v m)
  have:=in_strict (g:=g) h.n3 h.d h.st (hv.sp v m) (hi v m) fun x hx=>by
   obtain ⟨a,b⟩:=g1 x (fun L hL=>h.lf L hL x hx)
   rcases Int.lt_or_eq_of_le a with q | q
   ·exact q
   ·obtain ⟨j,hj,e⟩:=mem_getD3 hx
    exact absurd ⟨j,hj,by rw [← e];exact (pq_rp (hv.sp v m) (h.d x hx)).1 (b q.symm)⟩ c
  omega
theorem crn_rp {M V:List Spt} (hv:Crn M V) {a b:Spt} (ha:a∈V) (hb:b∈V) (e:rp a=rp b):a=b:=by
 have:=(pq_rp (hv.sp a ha) (hv.sp b hb)).2 e
 have this':=(pq_rp (hv.sp b hb) (hv.sp a ha)).2 e.symm
 obtain ⟨i,hi,e1⟩:=List.getElem_of_mem ha
 obtain ⟨j,hj,e2⟩:=List.getElem_of_mem hb
 have p:=List.pairwise_iff_getElem.1 hv.pw
 rcases Nat.lt_trichotomy i j with q | q | q
 ·exact absurd (by rw [e1,e2];exact this) (p i j hi hj q)
 ·subst q;rw [← e1,← e2]
 ·exact absurd (by rw [e1,e2];exact this') (p j i hj hi q)
theorem crn_len {M C V:List Spt} (h:SCP M C) (hv:Crn M V) (hi:∀ v∈V,InP C v):C.length=V.length:=by
 have n1:(C.map rp).Nodup:=by
  refine List.pairwise_map.2 (List.pairwise_iff_getElem.2 fun i j hi hj hij e=>?_)
  have:=scp_rp h hi hj (by simpa [List.getD,hi,hj] using e)
  omega
 have n2:(V.map rp).Nodup:=by
  refine List.pairwise_map.2 (List.pairwise_iff_getElem.2 fun i j hi hj hij e=>?_)
  exact (List.pairwise_iff_getElem.1 hv.pw) i j hi hj hij ((pq_rp (hv.sp _ (List.getElem_mem hi)) (hv.sp _ (List.getElem_mem hj))).2 e)
 have:=((List.perm_ext_iff_of_nodup n1 n2).2 fun p=>by
  rw [List.mem_map,List.mem_map]
  constructor
  ·rintro ⟨x,hx,rfl⟩
   obtain ⟨v,m,e⟩:=crn_to h hv x hx
   exact ⟨v,m,e.symm⟩
  ·rintro ⟨v,m,rfl⟩
   obtain ⟨i,hi,e⟩:=crn_of h hv hi v m
   exact ⟨_,getD_mem3 hi,e.symm⟩).length_eq
 simpa using this
def Nx3 (V:List Spt) (a b:Spt):Prop:=b∈V∧b≠a∧∀ k∈V,k=a∨k=b∨0<dt3 a b k
theorem nx3_ex {M C V:List Spt} (h:SCP M C) (hv:Crn M V) (hi:∀ v∈V,InP C v) {a:Spt} (ha:a∈V) {j:Nat} (hj:j<C.length) (e:rp a=rp (C.getD j z3)):∃ b,Nx3 V a b∧rp b=rp (C.getD ((j+1) % C.length) z3):=by
 have hn:(j+1) % C.length<C.length:=Nat.mod_lt _ (by omega)
 obtain ⟨b,m,eb⟩:=crn_to h hv _ (getD_mem3 hn)
 refine ⟨b,⟨m,fun q=>?_,fun k hk=>?_⟩,eb.symm⟩
 ·rw [q,e] at eb
  exact nxt_ne h.n3 hj (scp_rp h hn hj eb)
 ·obtain ⟨i,hi,ek⟩:=crn_of h hv hi k hk
  by_cases c1:i=j
  ·left;refine crn_rp hv hk ha (by rw [ek,c1,e])
  ·by_cases c2:i=(j+1) % C.length
   ·right;left;refine crn_rp hv hk m (by rw [ek,c2,eb])
   ·right;right
    exact dt3_pos (h.d _ (getD_mem3 hj)) (h.d _ (getD_mem3 hn)) (h.d _ (getD_mem3 hi)) (hv.sp a ha) (hv.sp b m) (hv.sp k hk) e.symm eb ek.symm (str_edge h.st hj hi c1 c2)
theorem nx3_un {V:List Spt} {a b c:Spt} (hb:Nx3 V a b) (hc:Nx3 V a c):b=c:=by
 rcases hb.2.2 c hc.1 with q | q | q
 ·exact absurd q hc.2.1
 ·exact q.symm
 ·rcases hc.2.2 b hb.1 with r | r | r
  ·exact absurd r hb.2.1
  ·exact r
  ·have:dt3 a c b=- dt3 a b c:=by unfold dt3;grind
   omega
theorem qsum_rot (f:Nat→Rat) {n:Nat} (h0:0<n):∀ j,qsum n (fun i=>f ((j+i) % n))=qsum n f
 | 0=>qsum_congr fun i hi=>by rw [Nat.zero_add,Nat.mod_eq_of_lt hi]
 | j+1=>by
  have ih:=qsum_rot f h0 j
  rw [← ih]
  have e:=qsum_shift (fun i=>f ((j+i) % n)) n
  rw [Nat.add_mod_right,Nat.add_zero] at e
  have a:=qsum_add (fun i=>f ((j+1+i) % n)-f ((j+i) % n)) (fun i=>f ((j+i) % n)) n
  have b:qsum n (fun i=>f ((j+1+i) % n))=qsum n (fun i=>f ((j+1+i) % n)-f ((j+i) % n)+f ((j+i) % n)):=qsum_congr fun i _=>by grind
  have c:qsum n (fun i=>f ((j+1+i) % n)-f ((j+i) % n))=qsum n (fun i=>f ((j+(i+1)) % n)-f ((j+i) % n)):=qsum_congr fun i _=>by rw [show j+1+i=j+(i+1) by omega]
  rw [b,a,c,e];grind
theorem chain_cyc {M C V O:List Spt} (h:SCP M C) (hv:Crn M V) (hi:∀ v∈V,InP C v) (hl:O.length=V.length) (h0:O.getD 0 z3∈V) (hO:∀ i,i+1<O.length→Nx3 V (O.getD i z3) (O.getD (i+1) z3)) (F:RP→RP→Rat):cyc F O=cyc F C:=by
 have hn:=crn_len h hv hi
 have n3:=h.n3
 obtain ⟨j,hj,ej⟩:=crn_of h hv hi _ h0
 have key:∀ i,i<O.length→O.getD i z3∈V∧rp (O.getD i z3)=rp (C.getD ((j+i) % C.length) z3):=by
  intro i
  induction i with
  | zero=>intro _;exact ⟨h0,by rw [Nat.add_zero,Nat.mod_eq_of_lt hj];exact ej⟩
  | succ i ih =>
   intro hi'
   obtain ⟨m,e⟩:=ih (by omega)
   obtain ⟨b,hb,eb⟩:=nx3_ex h hv hi m (Nat.mod_lt _ (by omega)) e
   have:=nx3_un (hO i hi') hb
   rw [this]
   refine ⟨hb.1,?_⟩
   rw [eb,Nat.mod_add_mod,Nat.add_assoc]
 unfold cyc
 have e:O.length=C.length:=by omega
 rw [e]
 rw [← qsum_rot (fun i=>F (rp (C.getD i z3)) (rp (C.getD ((i+1) % C.length) z3))) (by omega) j]
 refine qsum_congr fun i hi=>?_
 rw [(key i (by omega)).2,(key _ (by rw [e];exact Nat.mod_lt _ (by omega))).2,Nat.mod_add_mod,Nat.add_mod_mod,Nat.add_assoc]
end Go.Proofs.YtdgabicjcepmeaaGreatDoor
namespace Go.Proofs.YtdgabicjcepmeaaGreatDoor
def thr (p q:Int×Int):Spt:=(p.2-q.2,q.1-p.1,(q.2-p.2)*p.1-(q.1-p.1)*p.2)
def plS (l:List (Int×Int)):List Spt:=(List.range l.length).map fun i=>thr (l.getD i (0,0)) (l.getD ((i+1) % l.length) (0,0))
theorem thr_dt3 (p q:Int×Int) (v:Spt):lev (thr p q) v=dt3 (p.1,p.2,1) (q.1,q.2,1) v:=by unfold lev thr dt3;grind
theorem plS_mem {l:List (Int×Int)} {i:Nat} (h:i<l.length):thr (l.getD i (0,0)) (l.getD ((i+1) % l.length) (0,0))∈plS l:=List.mem_map.2 ⟨i,List.mem_range.2 h,rfl⟩
theorem spS_str {l:List (Int×Int)} (h:Cvx l):Str (spS l):=by
 intro i j k hij hjk hk
 rw [spS_len] at hk
 rw [spS_getD (by omega),spS_getD (by omega),spS_getD hk]
 have:=cvx_trn h hij k hjk hk
 have e:dt3 ((l.getD i (0,0)).1,(l.getD i (0,0)).2,1) ((l.getD j (0,0)).1,(l.getD j (0,0)).2,1) ((l.getD k (0,0)).1,(l.getD k (0,0)).2,1)=trn (l.getD i (0,0)) (l.getD j (0,0)) (l.getD k (0,0)):=by unfold dt3 trn;grind
 omega
theorem spS_scp {l:List (Int×Int)} (h3:3≤l.length) (h:Cvx l):SCP (plS l) (spS l):=by
 have st:=spS_str h
 have g3:3≤(spS l).length:=by rw [spS_len];exact h3
 have nz:∀ i,i<l.length→¬ ((thr (l.getD i (0,0)) (l.getD ((i+1) % l.length) (0,0))).1=0∧(thr (l.getD i (0,0)) (l.getD ((i+1) % l.length) (0,0))).2.1=0):=fun i hi e=>by
  have hn:(i+1) % l.length<l.length:=Nat.mod_lt _ (by omega)
  refine str_inj g3 st (i:=i) (j:=(i+1) % l.length) (by rw [spS_len];exact hi) (by rw [spS_len];exact hn) (fun q=>nxt_ne h3 hi q.symm) ?_
  rw [spS_getD hi,spS_getD hn]
  unfold thr at e
  dsimp only at e
  rw [show (l.getD i (0,0)).1=(l.getD ((i+1) % l.length) (0,0)).1 by omega,show (l.getD i (0,0)).2=(l.getD ((i+1) % l.length) (0,0)).2 by omega]
 refine ⟨g3,fun x hx=>?_,st,fun i hi=>?_,fun x hx=>?_,fun L hL x hx=>?_⟩
 ·obtain ⟨p,_,rfl⟩:=List.mem_map.1 hx
  exact ⟨Int.one_pos,by dsimp only;exact Int.gcd_one_right _⟩
 ·rw [spS_len] at hi ⊢
  have hn:(i+1) % l.length<l.length:=Nat.mod_lt _ (by omega)
  refine ⟨_,plS_mem hi,nz i hi,?_,?_⟩
  ·rw [thr_dt3,spS_getD hi,dt3_self3]
  ·rw [thr_dt3,spS_getD hn,dt3_self2]
 ·obtain ⟨i,hi,e⟩:=mem_getD3 hx
  rw [spS_len] at hi
  obtain ⟨j,hj,j1,j2,j3⟩:=prev_of h3 hi
  have hn:(i+1) % l.length<l.length:=Nat.mod_lt _ (by omega)
  rw [e]
  refine ⟨_,plS_mem hj,_,plS_mem hi,?_,?_,?_⟩
  ·rw [thr_dt3,j1,spS_getD hi,dt3_self2]
  ·rw [thr_dt3,spS_getD hi,dt3_self3]
  ·rw [j1]
   have:=str_edge st (i:=i) (j:=j) (by rw [spS_len];exact hi) (by rw [spS_len];exact hj) j2 (by rw [spS_len];exact j3)
   rw [spS_len,spS_getD hi,spS_getD hn,spS_getD hj] at this
   unfold dt3 at this
   unfold thr
   dsimp only at *
   intro q
   grind
 ·obtain ⟨i,hi,rfl⟩:=List.mem_map.1 hL
  rw [List.mem_range] at hi
  have hn:(i+1) % l.length<l.length:=Nat.mod_lt _ (by omega)
  obtain ⟨j,hj,e⟩:=mem_getD3 hx
  have:=tri_edge st.tri (i:=i) (j:=j) (by rw [spS_len];exact hi) hj
  rw [spS_len,spS_getD hi,spS_getD hn] at this
  rw [thr_dt3,e]
  exact this
theorem inP_lines {l:List (Int×Int)} {v:Spt} (h:∀ L∈plS l,0≤lev L v):InP (spS l) v:=by
 intro i hi
 rw [spS_len] at hi ⊢
 have hn:(i+1) % l.length<l.length:=Nat.mod_lt _ (by omega)
 have:=h _ (plS_mem hi)
 rw [thr_dt3] at this
 rw [spS_getD hi,spS_getD hn]
 exact this
theorem line_dt3 {L x y z:Spt} (l0:¬ (L.1=0∧L.2.1=0)) (hx:0<x.2.2) (hy:0<y.2.2) (hz:0<z.2.2) (ex:lev L x=0) (ey:lev L y=0) (ez:lev L z=0):dt3 x y z=0:=by
 have e:=dt3_dtr hx hy hz
 rw [on_line l0 ((lev_sgn L hx).2.1 ex) ((lev_sgn L hy).2.1 ey) ((lev_sgn L hz).2.1 ez),Rat.mul_zero] at e
 exact Rat.intCast_inj.1 e
theorem cut_ref {P:List (Int×Int)} (h3:3≤P.length) (hc:Cvx P) {Ls V:List Spt} (hL:∀ L∈Ls,¬ (L.1=0∧L.2.1=0)) (hV:Crn (Ls++plS P) V) {F:RP→RP→Rat} (hF:Fn F) :
  (V.length<3→cyc F (clL Ls (spS P))=0)∧(3≤V.length→(∀ a∈V,∃ b,Nx3 V a b)∧(∀ a∈V,∃ x∈clL Ls (spS P),rp a=rp x)∧∀ O:List Spt,O.length=V.length→O.getD 0 z3∈V→(∀ i,i+1<O.length→Nx3 V (O.getD i z3) (O.getD (i+1) z3))→cyc F O=cyc F (clL Ls (spS P))):=by
 have inp:∀ v∈V,InP (spS P) v:=fun v m=>inP_lines fun L hL=>hV.lf v m L (List.mem_append_right _ hL)
 have lft:∀ v∈V,∀ L∈Ls,0≤lev L v:=fun v m L hL=>hV.lf v m L (List.mem_append_left _ hL)
 rcases cut_all (spS_scp h3 hc) Ls hL with ⟨h,hi⟩ | ⟨K,hK,hz,hv⟩
 ·have hi':∀ v∈V,InP (clL Ls (spS P)) v:=fun v m=>hi v (hV.sp v m) (inp v m) (lft v m)
  have hn:=crn_len h hV hi'
  have n3:=h.n3
  refine ⟨fun q=>by omega,fun _=>⟨fun a ha=>?_,fun a ha=>?_,fun O o1 o2 o3=>chain_cyc h hV hi' o1 o2 o3 F⟩⟩
  ·obtain ⟨j,hj,e⟩:=crn_of h hV hi' a ha
   obtain ⟨b,hb,_⟩:=nx3_ex h hV hi' ha hj e
   exact ⟨b,hb⟩
  ·obtain ⟨j,hj,e⟩:=crn_of h hV hi' a ha
   exact ⟨_,getD_mem3 hj,e⟩
 ·refine ⟨fun _=>cyc_line (hL K hK) hF fun x hx=>(lev_sgn K (hz x hx).1).2.1 (hz x hx).2,fun q=>?_⟩
  have m0:V[0]∈V:=List.getElem_mem _
  have m1:V[1]∈V:=List.getElem_mem _
  have m2:V[2]∈V:=List.getElem_mem _
  have p:=List.pairwise_iff_getElem.1 hV.pw
  have z:∀ v∈V,lev K v=0:=fun v m=>hv v (hV.sp v m) (inp v m) (lft v m)
  exact absurd (line_dt3 (hL K hK) (hV.sp _ m0) (hV.sp _ m1) (hV.sp _ m2) (z _ m0) (z _ m1) (z _ m2)) (no3 (hV.tw _ m0) (hV.tw _ m1) (hV.tw _ m2) (hV.lf _ m0) (hV.lf _ m1) (hV.lf _ m2) (p 0 1 (by omega) (by omega) (by omega)) (p 1 2 (by omega) (by omega) (by omega)) (p 0 2 (by omega) (by omega) (by omega)))
end Go.Proofs.YtdgabicjcepmeaaGreatDoor
namespace Go.Proofs.YtdgabicjcepmeaaGreatDoor
def mtS (a b:Spt):Spt:=(a.2.1*b.2.2-b.2.1*a.2.2,a.2.2*b.1-b.2.2*a.1,a.1*b.2.1-b.1*a.2.1)
def nrS (p:Spt):Spt:=if p.2.2<0 then (-p.1,-p.2.1,-p.2.2) else p
def OkW (M V:List Spt) (p:Spt):Prop:=0<p.2.2∧(∀ L∈M,0≤lev L p)∧∀ v∈V,¬ Pq v p
open Classical in
noncomputable def adV (M V:List Spt) (p:Spt):List Spt:=if OkW M V p then V++[p] else V
noncomputable def rowV (M:List Spt) (i:Nat) (V:List Spt):Nat→List Spt
 | 0=>V
 | k+1=>adV M (rowV M i V k) (nrS (mtS (M.getD i z3) (M.getD (i+1+k) z3)))
noncomputable def allV (M:List Spt):Nat→List Spt
 | 0=>[]
 | i+1=>rowV M i (allV M i) (M.length-(i+1))
structure CrI (M V:List Spt):Prop where
 sp:∀ v∈V,0<v.2.2
 tw:∀ v∈V,Two M v
 lf:∀ v∈V,∀ L∈M,0≤lev L v
 pw:V.Pairwise fun a b=>¬ Pq a b
theorem mtS_on (a b:Spt):lev a (mtS a b)=0∧lev b (mtS a b)=0:=by unfold lev mtS;constructor<;>grind
theorem nrS_on {a p:Spt} (h:lev a p=0):lev a (nrS p)=0:=by
 unfold nrS
 split
 ·unfold lev at *;dsimp only;grind
 ·exact h
theorem nrS_two {M:List Spt} {a b:Spt} (ha:a∈M) (hb:b∈M) (h:0<(nrS (mtS a b)).2.2):Two M (nrS (mtS a b)):=by
 refine ⟨a,ha,b,hb,nrS_on (mtS_on a b).1,nrS_on (mtS_on a b).2,fun e=>?_⟩
 have:(mtS a b).2.2=0:=by unfold mtS;dsimp only;grind
 unfold nrS at h
 rw [this] at h
 simp at h
 omega
theorem adV_inv {M V:List Spt} (h:CrI M V) {a b:Spt} (ha:a∈M) (hb:b∈M):CrI M (adV M V (nrS (mtS a b))):=by
 unfold adV
 split
 ·rename_i ok
  obtain ⟨o1,o2,o3⟩:=ok
  refine ⟨fun v hv=>?_,fun v hv=>?_,fun v hv=>?_,List.pairwise_append.2 ⟨h.pw,by simp,fun x hx y hy=>?_⟩⟩
  ·rcases List.mem_append.1 hv with q | q
   ·exact h.sp v q
   ·rw [List.mem_singleton.1 q];exact o1
  ·rcases List.mem_append.1 hv with q | q
   ·exact h.tw v q
   ·rw [List.mem_singleton.1 q];exact nrS_two ha hb o1
  ·rcases List.mem_append.1 hv with q | q
   ·exact h.lf v q
   ·rw [List.mem_singleton.1 q];exact o2
  ·rw [List.mem_singleton.1 hy];exact o3 x hx
 ·exact h
theorem rowV_inv {M V:List Spt} (h:CrI M V) {i:Nat} (hi:i<M.length):∀ k,i+1+k≤M.length→CrI M (rowV M i V k)
 | 0,_=>h
 | k+1,hk=>adV_inv (rowV_inv h hi k (by omega)) (getD_mem3 hi) (getD_mem3 (by omega))
theorem allV_inv (M:List Spt):∀ i,i≤M.length→CrI M (allV M i)
 | 0,_=>⟨fun _ h=>(by cases h),fun _ h=>(by cases h),fun _ h=>(by cases h),List.Pairwise.nil⟩
 | i+1,hi=>rowV_inv (allV_inv M i (by omega)) (by omega) _ (by omega)
theorem adV_sub (M V:List Spt) (p:Spt):∀ v∈V,v∈adV M V p:=fun v hv=>by
 unfold adV
 split
 ·exact List.mem_append_left _ hv
 ·exact hv
theorem rowV_sub (M V:List Spt) (i:Nat):∀ k m,k≤m→∀ v∈rowV M i V k,v∈rowV M i V m:=by
 intro k m h
 induction h with
 | refl=>exact fun _ h=>h
 | step _ ih=>exact fun v hv=>adV_sub _ _ _ v (ih v hv)
theorem allV_sub (M:List Spt):∀ k m,k≤m→∀ v∈allV M k,v∈allV M m:=by
 intro k m h
 induction h with
 | refl=>exact fun _ h=>h
 | step _ ih=>exact fun v hv=>rowV_sub M _ _ 0 _ (by omega) v (ih v hv)
theorem pq_tr {x y z:Spt} (hy:0<y.2.2) (h:Pq x y) (h':Pq y z):Pq x z:=by
 obtain ⟨a,b⟩:=h
 obtain ⟨c,d⟩:=h'
 have y0:y.2.2≠0:=by omega
 constructor
 ·have:y.2.2*(x.1*z.2.2)=y.2.2*(z.1*x.2.2):=by grind
  exact Int.eq_of_mul_eq_mul_left y0 this
 ·have:y.2.2*(x.2.1*z.2.2)=y.2.2*(z.2.1*x.2.2):=by grind
  exact Int.eq_of_mul_eq_mul_left y0 this
theorem pq_sy {x y:Spt} (h:Pq x y):Pq y x:=⟨h.1.symm,h.2.symm⟩
theorem adV_has {M V:List Spt} {p:Spt} (h1:0<p.2.2) (h2:∀ L∈M,0≤lev L p):∃ v∈adV M V p,Pq p v:=by
 unfold adV
 split
 ·exact ⟨p,by simp,rfl,rfl⟩
 ·rename_i c
  have:∃ v∈V,Pq v p:=Classical.byContradiction fun q=>c ⟨h1,h2,fun v hv e=>q ⟨v,hv,e⟩⟩
  obtain ⟨v,hv,e⟩:=this
  exact ⟨v,hv,pq_sy e⟩
theorem pq_lev {x y L:Spt} (hx:0<x.2.2) (hy:0<y.2.2) (h:Pq x y) (hl:0≤lev L x):0≤lev L y:=by
 rw [(lev_sgn L hy).1,← (pq_rp hx hy).1 h]
 exact (lev_sgn L hx).1.1 hl
theorem allV_has {M:List Spt} {x:Spt} {i k:Nat} (hik:i<k) (hk:k<M.length) (hx:0<x.2.2) (hi:lev (M.getD i z3) x=0) (hk0:lev (M.getD k z3) x=0) (hd:(M.getD i z3).1*(M.getD k z3).2.1-(M.getD i z3).2.1*(M.getD k z3).1≠0) (hl:∀ L∈M,0≤lev L x):∃ v∈allV M M.length,Pq x v:=by
 obtain ⟨p,hp⟩:∃ p,p=nrS (mtS (M.getD i z3) (M.getD k z3)):=⟨_,rfl⟩
 have e:=mtS_on (M.getD i z3) (M.getD k z3)
 have px:Pq x p:=two_pq hd hi hk0 (by rw [hp];exact nrS_on e.1) (by rw [hp];exact nrS_on e.2)
 have p0:0<p.2.2:=by
  have:(mtS (M.getD i z3) (M.getD k z3)).2.2≠0:=by
   intro q;apply hd;unfold mtS at q;dsimp only at q;grind
  rw [hp]
  unfold nrS
  split
  ·dsimp only;omega
  ·omega
 obtain ⟨v,hv,ev⟩:=adV_has (M:=M) (V:=rowV M i (allV M i) (k-(i+1))) p0 (fun L hL=>pq_lev hx p0 px (hl L hL))
 refine ⟨v,allV_sub M (i+1) _ (by omega) v ?_,pq_tr p0 px ev⟩
 refine rowV_sub M _ i (k-(i+1)+1) _ (by omega) v ?_
 show v∈adV M _ (nrS (mtS (M.getD i z3) (M.getD (i+1+(k-(i+1))) z3)))
 rw [show i+1+(k-(i+1))=k by omega,← hp]
 exact hv
theorem allV_crn (M:List Spt):Crn M (allV M M.length):=by
 have h:=allV_inv M M.length (Nat.le_refl _)
 refine ⟨h.sp,h.tw,h.lf,h.pw,fun x hx ht hl=>?_⟩
 obtain ⟨A,hA,B,hB,a0,b0,hd⟩:=ht
 obtain ⟨i,hi,rfl⟩:=mem_getD3 hA
 obtain ⟨k,hk,rfl⟩:=mem_getD3 hB
 rcases Nat.lt_trichotomy i k with q | q | q
 ·exact allV_has q hk hx a0 b0 hd hl
 ·subst q;exact absurd (by grind) hd
 ·exact allV_has q hi hx b0 a0 (fun e=>hd (by grind)) hl
theorem Crn.congr {M N V:List Spt} (h:Crn M V) (e:∀ L,L∈M↔L∈N):Crn N V:=by
 have two:∀ {x},Two N x→Two M x:=fun t=>t.mono fun L hL=>(e L).2 hL
 exact ⟨h.sp,fun v hv=>(h.tw v hv).mono fun L hL=>(e L).1 hL,fun v hv L hL=>h.lf v hv L ((e L).2 hL),h.pw,fun x hx ht hl=>h.all x hx (two ht) fun L hL=>hl L ((e L).1 hL)⟩
end Go.Proofs.YtdgabicjcepmeaaGreatDoor
namespace Go.Proofs.YtdgabicjcepmeaaGreatDoor
end Go.Proofs.YtdgabicjcepmeaaGreatDoor
namespace Go.Proofs.YtdgabicjcepmeaaGreatDoor
theorem thr_low (x y:Int):[thr (x,y) (x+1,y),thr (x+1,y) (x+1,y+1),thr (x+1,y+1) (x,y)]=(lowL x y).reverse:=by
 unfold lowL thr gY lX dgL
 simp only [List.reverse_cons,List.reverse_nil,List.nil_append,List.cons_append,List.cons.injEq,Prod.mk.injEq,and_true]
 refine ⟨⟨by omega,by omega,?_⟩,⟨by omega,by omega,?_⟩,by omega,by omega,?_⟩<;>grind
theorem thr_upp (x y:Int):[thr (x,y) (x+1,y+1),thr (x+1,y+1) (x,y+1),thr (x,y+1) (x,y)]=(uppL x y).reverse:=by
 unfold uppL thr gX lY neg3 dgL
 simp only [List.reverse_cons,List.reverse_nil,List.nil_append,List.cons_append,List.cons.injEq,Prod.mk.injEq,and_true]
 refine ⟨⟨by omega,by omega,?_⟩,⟨by omega,by omega,?_⟩,by omega,by omega,?_⟩<;>grind
theorem okL_nz {Ls:List Spt} (h:OkL Ls):∀ L∈Ls,¬ (L.1=0∧L.2.1=0):=fun L hL=>by
 obtain ⟨o,ho⟩:=h L hL
 exact ho.l0
theorem allV_rev (Ls:List Spt) (P:List (Int×Int)):Crn (Ls++plS P) (allV (Ls.reverse++plS P) (Ls.reverse++plS P).length) :=
 (allV_crn _).congr fun L=>by simp
end Go.Proofs.YtdgabicjcepmeaaGreatDoor
namespace Go.Proofs.YtdgabicjcepmeaaGreatDoor
open Go Go.Abs Go.PE
open Go.IntKind (wrap)
theorem remM_any {a b:Int} (h:b≠0):remM a b=some (a.tmod b):=by
 unfold remM
 rw [decide_eq_false h]
theorem gcd_loop:∀ (n:Nat) {a b:Int},b.natAbs≤n→∃ g:Int,loopM (fun (s:Int×Int)=>bif PE.notM (eqM s.2 0) then (remM s.1 s.2).bind fun r=>some (Sum.inl (s.2,r)) else some (Sum.inr s.1)) (a,b)=some g∧g.natAbs=Int.gcd a b
 | n,a,b,h=>by
  by_cases hb:b=0
  ·refine ⟨a,?_,by rw [hb,Int.gcd_zero_right]⟩
   rw [loopM_eq]
   dsimp only
   rw [eqI hb,notT,cond_false];rfl
  ·match n,h with
   | 0,h=>omega
   | n+1,h =>
    have hlt:(a.tmod b).natAbs<b.natAbs:=by rw [Int.natAbs_tmod];exact Nat.mod_lt _ (by omega)
    obtain ⟨g,e1,e2⟩:=gcd_loop n (a:=b) (b:=a.tmod b) (by omega)
    refine ⟨g,?_,?_⟩
    ·rw [loopM_eq]
     dsimp only
     rw [neI hb,notF,cond_true,remM_any hb]
     exact e1
    ·rw [e2]
     show Nat.gcd b.natAbs (a.tmod b).natAbs=Nat.gcd a.natAbs b.natAbs
     rw [Int.natAbs_tmod,Nat.gcd_comm b.natAbs,← Nat.gcd_rec,Nat.gcd_comm]
theorem gcd_ok {a b:Int} (ha:a.natAbs≤1000000000) (hb:b.natAbs≤1000000000):m79 (a,b)=some (Int.gcd a b:Int):=by
 obtain ⟨g,e1,e2⟩:=gcd_loop b.natAbs (a:=a) (b:=b) (Nat.le_refl _)
 have hg:Int.gcd a b≤1000000000:=by
  by_cases h:a=0∧b=0
  ·rw [h.1,h.2];decide
  ·by_cases h0:a=0
   ·rw [h0,Int.gcd_zero_left];exact hb
   ·exact Nat.le_trans (Int.gcd_le_natAbs_left b h0) ha
 unfold m79
 dsimp only
 refine bind_of e1 ?_
 rw [show negM g=-g from rfl,wrap_in (by omega) (by omega)]
 congr 1
 omega
theorem div_exact {x k:Int} (hk:k≠0) (h:k ∣ x) (hx:x.natAbs≤1000000000):divM .i64 x k=some (x / k):=by
 have h2:=Int.natAbs_ediv_le_natAbs x k
 rw [divM_pos hk,Int.tdiv_eq_ediv_of_dvd h,wrap_in (by omega) (by omega)]
theorem reduced_ok {s:Spt} (h:s.2.2≠0) (h1:s.1.natAbs≤1000000000) (h2:s.2.1.natAbs≤1000000000) (h3:s.2.2.natAbs≤1000000000):m60 s=some (redS s):=by
 have hg:Int.gcd (Int.gcd s.1 s.2.1) s.2.2≠0:=fun e=>h (Int.gcd_eq_zero_iff.1 e).2
 have g1:Int.gcd s.1 s.2.1≤1000000000:=by
  by_cases h0:s.1=0
  ·rw [h0,Int.gcd_zero_left];exact h2
  ·exact Nat.le_trans (Int.gcd_le_natAbs_left _ h0) h1
 have g2:Int.gcd (Int.gcd s.1 s.2.1) s.2.2≤1000000000:=Nat.le_trans (Int.gcd_le_natAbs_right _ h) h3
 obtain ⟨k,hk⟩:∃ k:Int,k=if s.2.2<0 then -(Int.gcd (Int.gcd s.1 s.2.1) s.2.2:Int) else Int.gcd (Int.gcd s.1 s.2.1) s.2.2:=⟨_,rfl⟩
 have hka:k.natAbs=Int.gcd (Int.gcd s.1 s.2.1) s.2.2:=by rw [hk];split<;>omega
 have hk0:k≠0:=by omega
 have d3:k ∣ s.2.2:=by rw [← Int.natAbs_dvd,hka];exact Int.gcd_dvd_right _ _
 have d12:k ∣ (Int.gcd s.1 s.2.1:Int):=by rw [← Int.natAbs_dvd,hka];exact Int.gcd_dvd_left _ _
 have d1:k ∣ s.1:=Int.dvd_trans d12 (Int.gcd_dvd_left _ _)
 have d2:k ∣ s.2.1:=Int.dvd_trans d12 (Int.gcd_dvd_right _ _)
 have er:redS s=(s.1 / k,s.2.1 / k,s.2.2 / k):=by unfold redS;dsimp only;rw [← hk]
 unfold m60
 rw [gcd_ok h1 h2,Option.bind_some,gcd_ok (by omega) h3,Option.bind_some]
 refine bind_of (x:=k) ?_ ?_
 ·by_cases hn:s.2.2<0
  ·rw [ltI hn,cond_true,hk,if_pos hn,show ∀ z:Int,negM z=-z from fun _=>rfl,wrap_in (by omega) (by omega)]
  ·rw [geI (by omega),cond_false,hk,if_neg hn]
 ·rw [div_exact hk0 d1 h1,Option.bind_some,div_exact hk0 d2 h2,Option.bind_some,div_exact hk0 d3 h3,Option.bind_some,er]
def lineF (ax ay bx by_:Int):Spt:=(-(by_-ay),bx-ax,(by_-ay)*ax-(bx-ax)*ay)
structure Nod (ax ay bx by_:Int):Prop where
 a0:0≤ax
 a1:ax≤6
 b0:0≤ay
 b1:ay≤6
 d0:-1≤bx-ax
 d1:bx-ax≤1
 e0:-1≤by_-ay
 e1:by_-ay≤1
def Bx (s:Spt):Prop:=0≤s.1∧s.1≤72∧0≤s.2.1∧s.2.1≤72∧0<s.2.2∧s.2.2≤12
theorem unit_mul {u z B:Int} (h0:-1≤u) (h1:u≤1) (hz:-B≤z∧z≤B):-B≤u*z∧u*z≤B:=by
 rcases (show u=-1∨u=0∨u=1 by omega) with rfl | rfl | rfl
 ·rw [Int.neg_mul,Int.one_mul];omega
 ·rw [Int.zero_mul];omega
 ·rw [Int.one_mul];omega
theorem lev_lnF (ax ay bx by_:Int) (s:Spt):lev (lineF ax ay bx by_) s=(bx-ax)*(s.2.1-ay*s.2.2)-(by_-ay)*(s.1-ax*s.2.2):=by
 unfold lev lineF;grind
theorem left_bds {ax ay bx by_:Int} {s:Spt} (h:Nod ax ay bx by_) (hs:Bx s):(0≤ay*s.2.2∧ay*s.2.2≤72)∧(0≤ax*s.2.2∧ax*s.2.2≤72)∧(-72≤(bx-ax)*(s.2.1-ay*s.2.2)∧(bx-ax)*(s.2.1-ay*s.2.2)≤72)∧(-72≤(by_-ay)*(s.1-ax*s.2.2)∧(by_-ay)*(s.1-ax*s.2.2)≤72):=by
 obtain ⟨x0,x1,y0,y1,d0,d1⟩:=hs
 obtain ⟨a0,a1,b0,b1,c0,c1,e0,e1⟩:=h
 have p1:=prod_bd (a:=ay) (b:=s.2.2) (A:=6) (B:=12) b0 b1 (by omega) d1
 have p2:=prod_bd (a:=ax) (b:=s.2.2) (A:=6) (B:=12) a0 a1 (by omega) d1
 exact ⟨by omega,by omega,unit_mul c0 c1 (by omega),unit_mul e0 e1 (by omega)⟩
theorem lev_bd {ax ay bx by_:Int} {s:Spt} (h:Nod ax ay bx by_) (hs:Bx s):-144≤lev (lineF ax ay bx by_) s∧lev (lineF ax ay bx by_) s≤144:=by
 obtain ⟨_,_,c,d⟩:=left_bds h hs
 rw [lev_lnF];omega
theorem left_ok {ax ay bx by_:Int} {s:Spt} (h:Nod ax ay bx by_) (hs:Bx s):m33 ((ax,ay),(bx,by_),s.1,s.2.1,s.2.2)=some (lev (lineF ax ay bx by_) s):=by
 obtain ⟨p1,p2,p3,p4⟩:=left_bds h hs
 obtain ⟨x0,x1,y0,y1,d0,d1⟩:=hs
 obtain ⟨a0,a1,b0,b1,c0,c1,e0,e1⟩:=h
 unfold m33
 dsimp only
 rw [wrap_in (n:=bx-ax) (by omega) (by omega),wrap_in (n:=ay*s.2.2) (by omega) (by omega),wrap_in (n:=s.2.1-_) (by omega) (by omega),wrap_in (n:=(bx-ax)*_) (by omega) (by omega),wrap_in (n:=by_-ay) (by omega) (by omega),wrap_in (n:=ax*s.2.2) (by omega) (by omega),wrap_in (n:=s.1-_) (by omega) (by omega),wrap_in (n:=(by_-ay)*_) (by omega) (by omega),wrap_in (by omega) (by omega),lev_lnF]
theorem adE_ok {o:List Spt} {r:Spt} (hl:o.length≤1000):adE o r=some (adS o r):=by
 have happ:appM (nat_lit 24) o [(r.1,r.2.1,r.2.2)]=some (o++[r]):=appM_of (by show (o.length+1)*24≤_;omega)
 unfold adE
 by_cases h0:o=[]
 ·subst h0
  rw [show eqM (lenM ([]:List Spt)) 0=true from rfl,notT,cond_false,Option.bind_some,cond_false,Option.bind_some,show PE.orM true _=true from rfl,cond_true,happ];rfl
 ·have hp:=List.length_pos_iff.2 h0
  have hz:=getD_last3 hp
  have hidx:idxM o ((o.length:Int)-1)=some (o.getD (o.length-1) z3):=by
   rw [show (o.length:Int)-1=((o.length-1:Nat):Int) by omega,idxM_nat,← List.getLast?_eq_getElem?,hz]
  rw [lenL,neI (by omega),notF,cond_true,wrap_in (n:=(o.length:Int)-1) (by omega) (by omega),chkM_of (by omega) (by omega),Option.bind_some,cond_true,hidx,Option.bind_some,orF]
  unfold adS
  rw [hz]
  generalize o.getD (o.length-1) z3=q at *
  by_cases hq:q=r
  ·subst hq
   rw [if_pos rfl,eqI rfl,eqI rfl,eqI rfl,andT,andT,notT,cond_false]
  ·rw [if_neg (fun e=>hq (Option.some.inj e))]
   have:PE.andM (eqM q.1 r.1) (PE.andM (eqM q.2.1 r.2.1) (eqM q.2.2 r.2.2))=false:=by
    unfold PE.andM eqM
    simp only [Bool.and_eq_false_iff,decide_eq_false_iff_not]
    refine Decidable.byContradiction fun hn=>hq ?_
    simp only [not_or,Decidable.not_not] at hn
    exact Prod.ext hn.1 (Prod.ext hn.2.1 hn.2.2)
   rw [this,notF,cond_true,happ];rfl
theorem bif_or (a b c d:Int):PE.orM (PE.andM (ltM 0 a) (ltM b 0)) (PE.andM (ltM a 0) (ltM 0 b))=decide ((0<a∧b<0)∨(a<0∧0<b)):=by
 by_cases h:(0<a∧b<0)∨(a<0∧0<b)
 ·rw [decide_eq_true h]
  rcases h with ⟨h1,h2⟩ | ⟨h1,h2⟩
  ·rw [ltI h1,ltI h2];rfl
  ·rw [ltI h1,ltI h2];cases PE.andM (ltM 0 a) (ltM b 0)<;>rfl
 ·rw [decide_eq_false h]
  by_cases h1:0<a
  ·rw [ltI h1,geI (a:=b) (by omega),geI (a:=a) (by omega)];rfl
  ·rw [geI (a:=0) (b:=a) (by omega)]
   by_cases h2:a<0
   ·rw [ltI h2,geI (a:=0) (by omega)];cases ltM b 0<;>rfl
   ·rw [geI (a:=a) (by omega)];cases ltM b 0<;>cases ltM 0 b<;>rfl
theorem crS_lits {h t:Int} {s n:Spt} (hs:Bx s) (hn:Bx n) (h0:-144≤h∧h≤144) (t0:-144≤t∧t≤144) :
  (-20736≤s.1*t-n.1*h∧s.1*t-n.1*h≤20736)∧(-20736≤s.2.1*t-n.2.1*h∧s.2.1*t-n.2.1*h≤20736)∧(-20736≤s.2.2*t-n.2.2*h∧s.2.2*t-n.2.2*h≤20736) ∧
  (-10368≤s.1*t∧s.1*t≤10368)∧(-10368≤n.1*h∧n.1*h≤10368)∧(-10368≤s.2.1*t∧s.2.1*t≤10368)∧(-10368≤n.2.1*h∧n.2.1*h≤10368)∧(-10368≤s.2.2*t∧s.2.2*t≤10368)∧(-10368≤n.2.2*h∧n.2.2*h≤10368):=by
 have key:∀ {x z:Int},0≤x→x≤72→-144≤z∧z≤144→-10368≤x*z∧x*z≤10368:=fun {x z} h0 h1 hz=>by
  have a:=Int.mul_le_mul_of_nonneg_left hz.2 h0
  have b:=Int.mul_le_mul_of_nonneg_left hz.1 h0
  omega
 obtain ⟨x0,x1,y0,y1,d0,d1⟩:=hs
 obtain ⟨a0,a1,b0,b1,c0,c1⟩:=hn
 have k1:=key x0 x1 t0
 have k2:=key y0 y1 t0
 have k3:=key (show 0≤s.2.2 by omega) (by omega) t0
 have k4:=key a0 a1 h0
 have k5:=key b0 b1 h0
 have k6:=key (show 0≤n.2.2 by omega) (by omega) h0
 omega
theorem clipB_ok {ax ay bx by_:Int} {l:List Spt} (hN:Nod ax ay bx by_) (hl:∀ x∈l,Bx x) (hlen:l.length≤200) {k:Nat} (hk:k<l.length):clipB ax ay bx by_ l ((k:Int),clN (lineF ax ay bx by_) l k)=some (.inl ((k:Int)+1,clN (lineF ax ay bx by_) l (k+1))):=by
 have hn:(k+1) % l.length<l.length:=Nat.mod_lt _ (by omega)
 have b1:=hl _ (getD_mem3 hk)
 have b2:=hl _ (getD_mem3 hn)
 have g1:idxM l (k:Int)=some (l.getD k z3):=by rw [idxM_lt hk];simp [List.getD,hk]
 have g2:idxM l (((k+1) % l.length:Nat):Int)=some (l.getD ((k+1) % l.length) z3):=by rw [idxM_lt hn];simp [List.getD,hn]
 have hlen2:=clN_len (lineF ax ay bx by_) l k
 unfold clipB
 dsimp only
 rw [lenL,ltI (by omega),cond_true,chkM_of (by omega) (by omega),Option.bind_some,g1,Option.bind_some,wrap_in (n:=(k:Int)+1) (by omega) (by omega),remM_of (by omega) (by omega),Option.bind_some,show ((k:Int)+1) % (l.length:Int)=(((k+1) % l.length:Nat):Int) by rw [Int.natCast_emod];rfl,chkM_of (by omega) (by omega),Option.bind_some,g2,Option.bind_some]
 show _=some (Sum.inl ((k:Int)+1,clS (lineF ax ay bx by_) (clN (lineF ax ay bx by_) l k) (l.getD k z3) (l.getD ((k+1) % l.length) z3)))
 generalize clN (lineF ax ay bx by_) l k=o at *
 generalize l.getD k z3=s at *
 generalize l.getD ((k+1) % l.length) z3=n at *
 have e1:=lev_bd hN b1
 have e2:=lev_bd hN b2
 rw [left_ok hN b1,Option.bind_some,left_ok hN b2,Option.bind_some,bif_or _ _ 0 0]
 obtain ⟨m1,m2,m3,m4,m5,m6,m7,m8,m9⟩:=crS_lits b1 b2 e1 e2
 have hdn:=fun hx=>crS_mix (h:=lev (lineF ax ay bx by_) s) (t:=lev (lineF ax ay bx by_) n) b1.2.2.2.2.1 b2.2.2.2.2.1 hx
 unfold clS
 dsimp only
 generalize lev (lineF ax ay bx by_) s=u at *
 generalize lev (lineF ax ay bx by_) n=v at *
 refine bind_of (x:=if (0<u∧v<0)∨(u<0∧0<v) then adS (if 0≤u then adS o s else o) (crS u v s n) else (if 0≤u then adS o s else o)) ?_ rfl
 have hlen3:(if 0≤u then adS o s else o).length≤401:=by
  split
  ·exact Nat.le_trans (adS_len _ _) (by omega)
  ·omega
 refine bind_of (x:=if 0≤u then adS o s else o) ?_ ?_
 ·by_cases hu:0≤u
  ·rw [leI hu,cond_true,adE_ok (by omega),if_pos hu];rfl
  ·rw [gtI (by omega),cond_false,if_neg hu]
 ·by_cases hx:(0<u∧v<0)∨(u<0∧0<v)
  ·have hd0:s.2.2*v-n.2.2*u≠0:=by
    rcases hx with ⟨h1,h2⟩ | ⟨h1,h2⟩
    ·have:=Int.mul_neg_of_pos_of_neg b1.2.2.2.2.1 h2
     have:=Int.mul_pos b2.2.2.2.2.1 h1
     omega
    ·have:=Int.mul_pos b1.2.2.2.2.1 h2
     have:=Int.mul_neg_of_pos_of_neg b2.2.2.2.2.1 h1
     omega
   rw [decide_eq_true hx,cond_true,if_pos hx,wrap_in (n:=s.1*v) (by omega) (by omega),wrap_in (n:=n.1*u) (by omega) (by omega),wrap_in (n:=s.2.1*v) (by omega) (by omega),wrap_in (n:=n.2.1*u) (by omega) (by omega),wrap_in (n:=s.2.2*v) (by omega) (by omega),wrap_in (n:=n.2.2*u) (by omega) (by omega),wrap_in (n:=s.1*v-n.1*u) (by omega) (by omega),wrap_in (n:=s.2.1*v-n.2.1*u) (by omega) (by omega),wrap_in (n:=s.2.2*v-n.2.2*u) (by omega) (by omega),
    reduced_ok (s:=(s.1*v-n.1*u,s.2.1*v-n.2.1*u,s.2.2*v-n.2.2*u)) hd0 (by dsimp only;omega) (by dsimp only;omega) (by dsimp only;omega),Option.bind_some,adE_ok (by omega)]
   rfl
  ·rw [decide_eq_false hx,cond_false,if_neg hx]
theorem clipE_ok {ax ay bx by_:Int} {l:List Spt} (hN:Nod ax ay bx by_) (hl:∀ x∈l,Bx x) (hlen:l.length≤200):clipE ax ay bx by_ l=some (clR (lineF ax ay bx by_) l):=by
 refine count_loop (fun k=>clN (lineF ax ay bx by_) l k) l.length (fun k hk=>clipB_ok hN hl hlen hk) ?_
 unfold clipB
 dsimp only
 rw [lenL,geI (by omega),cond_false];rfl
end Go.Proofs.YtdgabicjcepmeaaGreatDoor
namespace Go.Num
open Go.Lib
def vl:List Int→Int
 | []=>0
 | d::l=>d+10000*vl l
def okd (l:List Int):Prop:=∀ d∈l,0≤d∧d≤9999
def grp (n:Nat):List Int:=if h:n=0 then [] else ((n % 10000:Nat):Int)::grp (n / 10000)
termination_by n
decreasing_by omega
theorem grp_zero:grp 0=[]:=by rw [grp];simp
theorem grp_pos {n:Nat} (h:n≠0):grp n=((n % 10000:Nat):Int)::grp (n / 10000):=by rw [grp];simp [h]
theorem okd_nil:okd []:=fun _ h=>absurd h (by simp)
theorem okd_cons {d:Int} {l:List Int}:okd (d::l)↔(0≤d∧d≤9999)∧okd l:=by unfold okd;simp
theorem okd_app {l m:List Int}:okd (l++m)↔okd l∧okd m:=by
 unfold okd;constructor
 ·exact fun h=>⟨fun d hd=>h d (by simp [hd]),fun d hd=>h d (by simp [hd])⟩
 ·rintro ⟨h1,h2⟩ d hd;rcases List.mem_append.1 hd with h | h
  ·exact h1 d h
  ·exact h2 d h
theorem vl_nn:∀ {l:List Int},okd l→0≤vl l
 | [],_=>by simp [vl]
 | d::l,h=>by have:=vl_nn (okd_cons.1 h).2;have:=(okd_cons.1 h).1;simp only [vl];omega
theorem grp_okd (n:Nat):okd (grp n):=by
 induction n using Nat.strongRecOn with
 | _ n ih =>
  by_cases h:n=0
  ·subst h;rw [grp_zero];exact okd_nil
  ·rw [grp_pos h,okd_cons];exact ⟨by omega,ih _ (by omega)⟩
theorem vl_grp (n:Nat):vl (grp n)=n:=by
 induction n using Nat.strongRecOn with
 | _ n ih =>
  by_cases h:n=0
  ·subst h;rw [grp_zero];rfl
  ·rw [grp_pos h,vl,ih _ (by omega)];omega
theorem vl_app:∀ (l m:List Int),vl (l++m)=vl l+10000 ^ l.length*vl m
 | [],m=>by simp [vl]
 | d::l,m=>by
  simp only [List.cons_append,vl,vl_app l m,List.length_cons,Int.pow_succ]
  rw [Int.mul_add,← Int.add_assoc,← Int.mul_assoc,Int.mul_comm 10000 (10000 ^ l.length)]
theorem grp_of:∀ {l:List Int},okd l→(∀ h:l≠[],l.getLast h≠0)→grp (vl l).toNat=l
 | [],_,_=>by simp [vl,grp_zero]
 | d::l,h,hl=>by
  obtain ⟨h1,h2⟩:=okd_cons.1 h
  have hn:=vl_nn h2
  have hl':∀ h:l≠[],l.getLast h≠0:=fun h=>by have:=hl (by simp);rwa [List.getLast_cons h] at this
  have hz:(vl (d::l)).toNat≠0:=by
   intro h0
   have h3:vl l=0∧d=0:=by simp only [vl] at h0;omega
   cases l with
   | nil=>have:=hl (by simp);simp at this;exact this h3.2
   | cons e l=>have:=grp_of h2 hl';rw [h3.1] at this;simp [grp_zero] at this
  rw [grp_pos hz]
  have e1:(((vl (d::l)).toNat % 10000:Nat):Int)=d:=by simp only [vl];omega
  have e2:(vl (d::l)).toNat / 10000=(vl l).toNat:=by simp only [vl];omega
  rw [e1,e2,grp_of h2 hl']
theorem grp_drop:∀ (i n:Nat),(grp n).drop i=grp (n / 10000 ^ i)
 | 0,n=>by simp
 | i+1,n=>by
  by_cases h:n=0
  ·subst h;simp [grp_zero]
  ·rw [grp_pos h,List.drop_succ_cons,grp_drop i,Nat.pow_succ,Nat.div_div_eq_div_mul,Nat.mul_comm]
theorem grp_nil {n:Nat}:grp n=[]↔n=0:=by
 constructor
 ·intro h;by_cases h0:n=0
  ·exact h0
  ·rw [grp_pos h0] at h;simp at h
 ·rintro rfl;exact grp_zero
theorem grp_get (n i:Nat):(grp n).getD i 0=((n / 10000 ^ i % 10000:Nat):Int):=by
 have h:(grp n).getD i 0=((grp n).drop i).getD 0 0:=by simp
 rw [h,grp_drop]
 by_cases h0:n / 10000 ^ i=0
 ·rw [h0];simp [grp_zero]
 ·rw [grp_pos h0];rfl
theorem grp_len_le {n k:Nat} (h:n<10000 ^ k):(grp n).length≤k:=by
 have h1:(grp n).drop k=[]:=by rw [grp_drop,Nat.div_eq_of_lt h,grp_zero]
 exact List.drop_eq_nil_iff.1 h1
theorem grp_lt (n:Nat):n<10000 ^ (grp n).length:=by
 have h1:(grp n).drop (grp n).length=[]:=List.drop_length
 rw [grp_drop,grp_nil] at h1
 rcases Nat.div_eq_zero_iff.1 h1 with h | h
 ·have:=Nat.pow_pos (n:=(grp n).length) (show 0<10000 by decide);omega
 ·exact h
theorem grp_len_pow {n:Nat} (h:n≠0):10000 ^ ((grp n).length-1)≤n:=by
 by_cases h2:10000 ^ ((grp n).length-1)≤n
 ·exact h2
 ·have h3:=grp_len_le (Nat.lt_of_not_le h2)
  have:(grp n).length≠0:=fun e=>h (grp_nil.1 (List.length_eq_zero_iff.1 e))
  omega

def dgt (c:UInt8):Nat:=c.toNat-48
def isD (c:UInt8):Prop:=48≤c.toNat∧c.toNat≤57
def dv (l:List UInt8):Nat:=l.foldl (fun a c=>a*10+dgt c) 0
theorem dig_toNat {u:Nat} (h:u<10):(UInt8.ofNat (48+u)).toNat=48+u:=by
 rw [UInt8.toNat_ofNat'];omega
theorem isD_dig {u:Nat} (h:u<10):isD (UInt8.ofNat (48+u)):=by unfold isD;rw [dig_toNat h];omega
theorem dgt_dig {u:Nat} (h:u<10):dgt (UInt8.ofNat (48+u))=u:=by unfold dgt;rw [dig_toNat h];omega
theorem dv_app1 (l:List UInt8) (c:UInt8):dv (l++[c])=dv l*10+dgt c:=by unfold dv;rw [List.foldl_append];rfl
theorem dv_from:∀ (l:List UInt8) (a:Nat),l.foldl (fun a c=>a*10+dgt c) a=a*10 ^ l.length+dv l
 | [],a=>by simp [dv]
 | c::l,a=>by
  have e:dv (c::l)=dgt c*10 ^ l.length+dv l:=by
   show l.foldl (fun a c=>a*10+dgt c) (0*10+dgt c)=_
   rw [dv_from l,Nat.zero_mul,Nat.zero_add]
  rw [List.foldl_cons,dv_from l,e,List.length_cons,Nat.pow_succ,Nat.add_mul,Nat.mul_assoc,Nat.mul_comm 10,Nat.add_assoc]
theorem dv_app (l m:List UInt8):dv (l++m)=dv l*10 ^ m.length+dv m:=by unfold dv;rw [List.foldl_append,dv_from];rfl
theorem dec_step {n:Nat} (h:10≤n):decDigits n=decDigits (n / 10)++[UInt8.ofNat (48+n % 10)]:=by rw [decDigits,dif_neg (by omega)]
theorem dv_dec (n:Nat):dv (decDigits n)=n:=by
 induction n using Nat.strongRecOn with
 | _ n ih =>
  by_cases h:n<10
  ·rw [decDigits_one h];simp only [dv,List.foldl_cons,List.foldl_nil,dgt_dig h];omega
  ·rw [dec_step (by omega),dv_app1,ih _ (by omega),dgt_dig (by omega)];omega
theorem dec_isD (n:Nat):∀ c∈decDigits n,isD c:=by
 induction n using Nat.strongRecOn with
 | _ n ih =>
  by_cases h:n<10
  ·rw [decDigits_one h];intro c hc;rw [List.mem_singleton.1 hc];exact isD_dig h
  ·rw [dec_step (by omega)];intro c hc
   rcases List.mem_append.1 hc with h1 | h1
   ·exact ih _ (by omega) c h1
   ·rw [List.mem_singleton.1 h1];exact isD_dig (by omega)
theorem dec_ne (n:Nat):decDigits n≠[]:=by
 intro h;have:=decDigits_length n;rw [h] at this;have:=nDigits_pos n;simp at *;omega
theorem nDig_le:∀ (k n:Nat),n<10 ^ (k+1)→nDigits n≤k+1
 | 0,n,h=>by rw [nDigits_small (by simpa using h)];omega
 | k+1,n,h=>by
  by_cases h1:n<10
  ·rw [nDigits_small h1];omega
  ·rw [nDigits_big h1];have:=nDig_le k (n / 10) (by rw [Nat.pow_succ] at h;omega);omega
theorem dec_len_le {k n:Nat} (h:n<10 ^ (k+1)):(decDigits n).length≤k+1:=by rw [decDigits_length];exact nDig_le k n h
theorem dec_len_lt (n:Nat):n<10 ^ (decDigits n).length:=by rw [decDigits_length];exact lt_pow_nDigits n
theorem dec_head {n:Nat} (h:n≠0):∃ c l,decDigits n=c::l∧c≠48:=by
 induction n using Nat.strongRecOn with
 | _ n ih =>
  by_cases h1:n<10
  ·refine ⟨_,[],decDigits_one h1,fun e=>?_⟩
   have:=congrArg UInt8.toNat e;rw [dig_toNat h1] at this;simp at this;omega
  ·obtain ⟨c,l,e,hc⟩:=ih (n / 10) (by omega) (by omega)
   exact ⟨c,l++[UInt8.ofNat (48+n % 10)],by rw [dec_step (by omega),e];rfl,hc⟩
theorem dec_zero:decDigits 0=[48]:=by rw [decDigits_one (by omega)];rfl
def pad (m:Nat):List UInt8:=[UInt8.ofNat (48+m / 1000 % 10),UInt8.ofNat (48+m / 100 % 10),UInt8.ofNat (48+m / 10 % 10),UInt8.ofNat (48+m % 10)]
theorem dec_pad {n:Nat} (h:10000≤n):decDigits n=decDigits (n / 10000)++pad (n % 10000):=by
 rw [dec_step (by omega),dec_step (by omega),dec_step (by omega),dec_step (by omega)]
 simp only [List.append_assoc,List.cons_append,List.nil_append,pad]
 rw [show n / 10 / 10 / 10 / 10=n / 10000 by omega,show n / 10 / 10 / 10 % 10=n % 10000 / 1000 % 10 by omega,show n / 10 / 10 % 10=n % 10000 / 100 % 10 by omega,show n / 10 % 10=n % 10000 / 10 % 10 by omega,show n % 10000 % 10=n % 10 by omega]
theorem pad_dec {m:Nat} (h:m<10000):repeatL [48] (4-(decDigits m).length)++decDigits m=pad m:=by
 by_cases h1:m<10
 ·rw [decDigits_one h1];unfold pad
  rw [show m / 1000 % 10=0 by omega,show m / 100 % 10=0 by omega,show m / 10 % 10=0 by omega,show m % 10=m by omega];rfl
 ·by_cases h2:m<100
  ·rw [dec_step (by omega),decDigits_one (by omega)];unfold pad
   rw [show m / 1000 % 10=0 by omega,show m / 100 % 10=0 by omega,show m / 10 % 10=m / 10 by omega];rfl
  ·by_cases h3:m<1000
   ·rw [dec_step (by omega),dec_step (by omega),decDigits_one (by omega)];unfold pad
    rw [show m / 1000 % 10=0 by omega,show m / 100 % 10=m / 10 / 10 by omega];rfl
   ·rw [dec_step (by omega),dec_step (by omega),dec_step (by omega),decDigits_one (by omega)];unfold pad
    rw [show m / 1000 % 10=m / 10 / 10 / 10 by omega,show m / 100 % 10=m / 10 / 10 % 10 by omega];rfl
theorem dec_len4 {m:Nat} (h:m<10000):(decDigits m).length≤4:=dec_len_le (k:=3) (by omega)

theorem pu_dv:∀ (l:List UInt8) (a:Nat),(∀ c∈l,isD c)→a*10 ^ l.length+dv l<1844674407370955162→parseUint10 a l=.ok (a*10 ^ l.length+dv l)
 | [],a,_,_=>by simp [parseUint10,dv]
 | c::l,a,h,hb=>by
  have hc:isD c:=h c (by simp)
  have e:a*10 ^ (c::l).length+dv (c::l)=(a*10+(c.toNat-48))*10 ^ l.length+dv l:=by
   rw [show dv (c::l)=dgt c*10 ^ l.length+dv l from by have:=dv_app [c] l;simp only [List.singleton_append] at this;rw [this];simp [dv]]
   rw [List.length_cons,Nat.pow_succ,Nat.add_mul,← Nat.add_assoc,Nat.mul_assoc,Nat.mul_comm 10 (10 ^ l.length)];rfl
  have hp:1≤10 ^ l.length:=Nat.one_le_pow _ _ (by decide)
  rw [e] at hb ⊢
  have hs:a*10+(c.toNat-48)≤(a*10+(c.toNat-48))*10 ^ l.length:=Nat.le_mul_of_pos_right _ hp
  unfold parseUint10
  unfold isD at hc
  rw [if_pos hc,if_neg (by omega),if_neg (by omega)]
  exact pu_dv l _ (fun c hc=>h c (by simp [hc])) hb
theorem atoi_dv {l:List UInt8} (h0:l≠[]) (h:∀ c∈l,isD c) (hb:dv l<1844674407370955162):atoiAll l=.ok (dv l:Int):=by
 cases l with
 | nil=>exact absurd rfl h0
 | cons c l =>
  have hc:isD c:=h c (by simp)
  unfold isD at hc
  have e:parseMag (c::l)=.ok (dv (c::l)):=by
   unfold parseMag;rw [if_neg (by simp),pu_dv _ 0 h (by simpa using hb)];simp
  unfold atoiAll
  simp only
  rw [if_neg (by omega),e]
  simp only
  rw [if_neg (by omega),if_neg (by omega),if_neg (by omega)]
theorem dropW {α:Type} {p:α→Bool}:∀ {l:List α},(∀ c∈l,p c=true)→l.dropWhile p=[]
 | [],_=>rfl
 | c::l,h=>by rw [List.dropWhile_cons,if_pos (h c (by simp))];exact dropW fun c hc=>h c (by simp [hc])
theorem trim_dig {l cs:List UInt8} (h:∀ c∈l,cs.contains c=true):trimS l cs=[]:=by
 have e:trimRightS l cs=[]:=by
  unfold trimRightS
  rw [dropW fun c hc=>h c (List.mem_reverse.1 hc)];rfl
 unfold trimS;rw [e];rfl
def cyph:List UInt8:=[48,49,50,51,52,53,54,55,56,57]
theorem cyph_in {c:UInt8} (h:isD c):cyph.contains c=true:=by
 have h1:c=UInt8.ofNat c.toNat:=(UInt8.ofNat_toNat (x:=c)).symm
 unfold isD at h
 rw [h1]
 generalize c.toNat=k at h
 obtain ⟨h1,h2⟩:=h
 have:k=48∨k=49∨k=50∨k=51∨k=52∨k=53∨k=54∨k=55∨k=56∨k=57:=by omega
 rcases this with rfl | rfl | rfl | rfl | rfl | rfl | rfl | rfl | rfl | rfl<;>decide
theorem itoa_nn {n:Nat}:itoa (n:Int)=decDigits n:=by unfold itoa;rw [if_neg (by omega)];simp
theorem itoa_ng {n:Nat} (h:n≠0):itoa (-(n:Int))=45::decDigits n:=by unfold itoa;rw [if_pos (by omega)];simp
theorem pref_dec (n:Nat):trimPrefix (decDigits n) [45]=decDigits n:=by
 unfold trimPrefix hasPrefix
 have h:=dec_isD n
 cases e:decDigits n with
 | nil=>rfl
 | cons c l =>
  have hc:isD c:=h c (by rw [e];simp)
  have:(45==c)=false:=by
   rw [beq_eq_false_iff_ne];rintro rfl;revert hc;unfold isD;decide
  simp [List.isPrefixOf,this]
theorem pref_neg (l:List UInt8):trimPrefix (45::l) [45]=l:=by
 unfold trimPrefix hasPrefix;simp [List.isPrefixOf]
theorem pref_itoa (z:Int):trimPrefix (itoa z) [45]=decDigits z.natAbs:=by
 by_cases h:z<0
 ·obtain ⟨n,rfl⟩:∃ n:Nat,z=-(n:Int):=⟨z.natAbs,by omega⟩
  rw [itoa_ng (by omega),pref_neg];congr 1;omega
 ·obtain ⟨n,rfl⟩:∃ n:Nat,z=(n:Int):=⟨z.toNat,by omega⟩
  rw [itoa_nn,pref_dec];congr 1
theorem itoa_len (z:Int):(itoa z).length=(decDigits z.natAbs).length+if z<0 then 1 else 0:=by
 by_cases h:z<0
 ·obtain ⟨n,rfl⟩:∃ n:Nat,z=-(n:Int):=⟨z.natAbs,by omega⟩
  rw [itoa_ng (by omega),if_pos h,List.length_cons];congr 3;omega
 ·obtain ⟨n,rfl⟩:∃ n:Nat,z=(n:Int):=⟨z.toNat,by omega⟩
  rw [itoa_nn,if_neg h];rfl
theorem itoa_ne (z:Int):itoa z≠[]:=by
 intro h
 have h2:=itoa_len z
 have h1:(decDigits z.natAbs).length≠0:=fun e=>dec_ne z.natAbs (List.length_eq_zero_iff.1 e)
 rw [h,List.length_nil] at h2
 omega
theorem itoa_inj {x y:Int} (h:itoa x=itoa y):x=y:=by
 have e:decDigits x.natAbs=decDigits y.natAbs:=by rw [← pref_itoa,h,pref_itoa]
 have e2:x.natAbs=y.natAbs:=by rw [← dv_dec x.natAbs,e,dv_dec]
 have e3:=itoa_len x
 rw [h,itoa_len y,e] at e3
 split at e3<;>split at e3<;>omega
end Go.Num
namespace Go.Num
open Go Go.Lib Go.PE
def seqL:Nat→(Nat→Int)→List Int
 | 0,_=>[]
 | n+1,g=>g 0::seqL n fun i=>g (i+1)
theorem seqL_len:∀ n g,(seqL n g).length=n
 | 0,_=>rfl
 | n+1,g=>by show (seqL n _).length+1=n+1;rw [seqL_len]
theorem seqL_get:∀ (n:Nat) (g:Nat→Int) (i:Nat),i<n→(seqL n g).getD i 0=g i
 | n+1,g,0,_=>rfl
 | n+1,g,i+1,h=>by
  show (seqL n fun i=>g (i+1)).getD i 0=_
  exact seqL_get n _ i (by omega)
theorem vl_add:∀ (n:Nat) (f g:Nat→Int),vl (seqL n fun i=>f i+g i)=vl (seqL n f)+vl (seqL n g)
 | 0,_,_=>rfl
 | n+1,f,g=>by
  show f 0+g 0+10000*vl (seqL n fun i=>f (i+1)+g (i+1))=f 0+10000*vl (seqL n fun i=>f (i+1))+(g 0+10000*vl (seqL n fun i=>g (i+1)))
  rw [vl_add n (fun i=>f (i+1)) fun i=>g (i+1)];omega
theorem vl_sub:∀ (n:Nat) (f g:Nat→Int),vl (seqL n fun i=>f i-g i)=vl (seqL n f)-vl (seqL n g)
 | 0,_,_=>rfl
 | n+1,f,g=>by
  show f 0-g 0+10000*vl (seqL n fun i=>f (i+1)-g (i+1))=f 0+10000*vl (seqL n fun i=>f (i+1))-(g 0+10000*vl (seqL n fun i=>g (i+1)))
  rw [vl_sub n (fun i=>f (i+1)) fun i=>g (i+1)];omega
theorem vl_mul (c:Int):∀ (n:Nat) (f:Nat→Int),vl (seqL n fun i=>f i*c)=vl (seqL n f)*c
 | 0,_=>by show (0:Int)=0*c;rw [Int.zero_mul]
 | n+1,f=>by
  show f 0*c+10000*vl (seqL n fun i=>f (i+1)*c)=(f 0+10000*vl (seqL n fun i=>f (i+1)))*c
  rw [vl_mul c n fun i=>f (i+1),Int.add_mul,Int.mul_assoc]
theorem vl_zero:∀ n,vl (seqL n fun _=>0)=0
 | 0=>rfl
 | n+1=>by show 0+10000*vl (seqL n fun _=>0)=0;rw [vl_zero n];rfl
theorem vl_of:∀ (n:Nat) (l:List Int),l.length≤n→vl (seqL n fun i=>l.getD i 0)=vl l
 | 0,[],_=>rfl
 | n+1,[],_=>by
  have:(fun i=>([]:List Int).getD i 0)=fun _=>0:=by funext i;simp
  rw [this,vl_zero];rfl
 | n+1,d::l,h=>by
  show d+10000*vl (seqL n fun i=>l.getD i 0)=d+10000*vl l
  rw [vl_of n l (by simpa using h)]
theorem getD_in {α:Type} (l:List α) (d:α) {i:Nat} (h:i<l.length):l.getD i d=l[i]:=by rw [List.getD_eq_getElem?_getD,List.getElem?_eq_getElem h];rfl
theorem getD_out {α:Type} (l:List α) (d:α) {i:Nat} (h:l.length≤i):l.getD i d=d:=by rw [List.getD_eq_getElem?_getD,List.getElem?_eq_none h];rfl
theorem vl_drop (l:List Int) (i:Nat):vl (l.drop i)=l.getD i 0+10000*vl (l.drop (i+1)):=by
 by_cases h:i<l.length
 ·rw [List.drop_eq_getElem_cons h,vl,getD_in _ _ h]
 ·rw [List.drop_eq_nil_of_le (by omega),List.drop_eq_nil_of_le (by omega),getD_out _ _ (by omega)];rfl
theorem pow_pos10 (k:Nat):(0:Int)<10000 ^ k:=Int.pow_pos (by omega)
theorem vl_lt:∀ {l:List Int},okd l→vl l<10000 ^ l.length
 | [],_=>by show (0:Int)<1;omega
 | d::l,h=>by
  have:=vl_lt (okd_cons.1 h).2
  have:=(okd_cons.1 h).1
  rw [List.length_cons,Int.pow_succ]
  simp only [vl]
  omega
theorem vl_snoc (l:List Int) (d:Int):vl (l++[d])=vl l+10000 ^ l.length*d:=by
 rw [vl_app];simp [vl]
theorem okd_get {l:List Int} (h:okd l) (i:Nat):0≤l.getD i 0∧l.getD i 0≤9999:=by
 by_cases hi:i<l.length
 ·rw [getD_in _ _ hi];exact h _ (List.getElem_mem hi)
 ·rw [getD_out _ _ (by omega)];omega
theorem carry_loop {body:Int×Int×List Int→Option ((Int×Int×List Int)⊕List Int)} {dl:List Int} (hd:∀ i,-9999≤dl.getD i 0∧dl.getD i 0≤99980001) (h0:0≤vl dl)
  (hb:∀ (i:Nat) (c:Int) (out:List Int),out.length=i→i≤dl.length→-1≤c→c≤9999→(i<dl.length∨c≠0)→body (c,(i:Int),out)=some (.inl ((dl.getD i 0+c) / 10000,(i:Int)+1,out++[(dl.getD i 0+c) % 10000])))
  (he:∀ (i:Nat) (out:List Int),dl.length≤i→body (0,(i:Int),out)=some (.inr out)):Ans (loopM body (0,0,[])) fun out=>okd out∧vl out=vl dl∧out.length≤dl.length+1:=by
 refine Ans.loop (fun k s=>s.2.1=(k:Int)∧s.2.2.length=k∧okd s.2.2∧(-1≤s.1∧s.1≤9999)∧(dl.length<k→s.1=0)∧vl s.2.2+10000 ^ k*(s.1+vl (dl.drop k))=vl dl) (dl.length+1)
  ⟨rfl,rfl,okd_nil,⟨by decide,by decide⟩,fun _=>rfl,by simp [vl]⟩ ?_
 rintro k ⟨c,i,out⟩ hk ⟨h1,h2,h3,h4,h5,h6⟩
 dsimp only at h1 h2 h3 h4 h5 h6
 subst h1
 have hout:=vl_lt h3
 rw [h2] at hout
 have hpk:=pow_pos10 k
 by_cases hend:dl.length≤k∧c=0
 ·obtain ⟨e1,e2⟩:=hend
  subst e2
  refine .of (he k out e1) ⟨h3,?_,by omega⟩
  rw [List.drop_eq_nil_of_le e1] at h6
  simp [vl] at h6
  exact h6
 ·have hkl:k≤dl.length:=by
   by_cases h:dl.length<k
   ·exact absurd ⟨by omega,h5 h⟩ hend
   ·omega
  have hD:=hd k
  refine .of (hb k c out h2 hkl h4.1 h4.2 (by omega)) ⟨by omega,rfl,by simp [h2],okd_app.2 ⟨h3,okd_cons.2 ⟨by omega,okd_nil⟩⟩,by dsimp only;omega,fun hl=>?_,?_⟩
  ·have hk2:k=dl.length:=by omega
   have e0:dl.getD k 0=0:=getD_out _ _ (by omega)
   dsimp only
   rw [e0,Int.zero_add]
   by_cases hc:0≤c
   ·omega
   ·exfalso
    rw [List.drop_eq_nil_of_le (by omega)] at h6
    have hc1:c=-1:=by omega
    rw [hc1] at h6
    simp only [vl] at h6
    omega
  ·dsimp only
   rw [vl_snoc,h2,← h6,vl_drop dl k,Int.pow_succ,Int.mul_assoc,Int.add_assoc,← Int.mul_add]
   congr 2
   have:=Int.emod_add_mul_ediv (dl.getD k 0+c) 10000
   omega
theorem step_digit {v:Int} (h:-10000≤v) (h2:v≤100000000):(bif ltM v 0 then some ((-1:Int),IntKind.wrap .i64 (v+10000)) else bif leM 10000 v then (divM .i64 v 10000).bind fun r_3=>(remM v 10000).bind fun r=>some (r_3,r) else some (0,v))=some (v / 10000,v % 10000):=by
 by_cases h1:v<0
 ·rw [ltI h1,cond_true,wrap_in (by omega) (by omega),show v / 10000=-1 by omega,show v % 10000=v+10000 by omega]
 ·rw [geI (by omega),cond_false]
  by_cases h3:10000≤v
  ·rw [leI h3,cond_true,divM_pos (by omega),remM_of (by omega) (by omega),Int.tdiv_eq_ediv_of_nonneg (by omega),wrap_in (by omega) (by omega)];rfl
  ·rw [gtI (by omega),cond_false,show v / 10000=0 by omega,show v % 10000=v by omega]
theorem dv_lt:∀ {l:List UInt8},(∀ c∈l,isD c)→dv l<10 ^ l.length
 | [],_=>by decide
 | c::l,h=>by
  have:=dv_lt fun c hc=>h c (List.mem_cons_of_mem _ hc)
  have hc:isD c:=h c (by simp)
  unfold isD at hc
  have e:dv (c::l)=dgt c*10 ^ l.length+dv l:=by have:=dv_app [c] l;simp only [List.singleton_append] at this;rw [this];simp [dv]
  have h9:dgt c*10 ^ l.length≤9*10 ^ l.length:=Nat.mul_le_mul_right _ (by unfold dgt;omega)
  rw [e,List.length_cons,Nat.pow_succ]
  omega
end Go.Num
