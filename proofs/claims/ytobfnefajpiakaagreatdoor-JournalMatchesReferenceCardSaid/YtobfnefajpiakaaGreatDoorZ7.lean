/-
 Texts of this proof, put together: M2, M3, M4, PA, PB, PC, PD, Aa, Ac, Ah, Ba, Bb, Bc, Bd, Be, Bf, Bm, Da, Aj, Ca, Cb, Cc, Cd, Ce, Cf, Cg, Ch, Ak, Ck, Db, Dc, Dd, De, Df, Ci, Cj.
 No conditions.
-/
import Derived.Test.YtobfnefajpiakaaGreatDoorZ6
import Derived.IntWalk
set_option linter.all false
namespace Go.Proofs.YtobfnefajpiakaaGreatDoor
open Go Go.Abs Go.PE Go.Proofs
open Go.IntKind (wrap)
set_option maxRecDepth 100000
variable [EA]
noncomputable section

/-! putlog/putlogref37.Open -/
def pa50:List SR:=[.c (.h 1)]
def po50:List SO:=[.opt [.h 2,.h 3,.d (.d .bool),.d (.d tI)],.arr (.int .u8),.arr (.pair tI .str)]
def pk50:Skel:=⟨[(1000000,.t [.c (.h 4),.c (.d (.d tI))])],[],[(1,.box [.h 6,.h 7,.d (.d .bool),.d (.d tI)]),(2,.gone),(3,.gone)],[.opt [.h 1,.h 5,.d (.d tI),.d (.d .bool)],.arr .str,.arr (.int .u8),.arr (.pair tI .str)]⟩
def an50:Ann:=.seq (.a) (.seq (.a) (.seq (.reg [] [] [z0,z0,.k [1,2,3],z0,z0,z0,z0,z0] (.ct (.a))) (.seq (.a) (.seq (.a) (.seq (.a) (.seq (.block (.loop ⟨[(8,.r (.c (.d (.d .str))))],(9::10::11::ra 31 68 ([])),[(5,.box [.h 1,.h 6,.d (.d tI),.d (.d .bool)])],[.arr .str]⟩ [(.exit 0,⟨[],(8::9::10::11::ra 31 68 ([])),[(5,.box [.h 1,.h 6,.d (.d tI),.d (.d .bool)])],[.arr .str]⟩),(.ret,⟨[(2,.r (.c (.l .nilP))),(3,.r (.c (.d (.d tI))))],(8::9::10::11::ra 31 68 ([])),[(5,.box [.h 1,.h 6,.d (.d tI),.d (.d .bool)])],[.arr .str]⟩)] (.a))) (.seq (.a) (.seq (.join [(.ret,⟨[(2,.r (.c (.l .nilP))),(3,.r (.c (.d (.d tI))))],(6::ra 107 22 ([])),[(1,.box [.h 8,.h 9,.d (.d .bool),.d (.d tI)]),(2,.gone),(3,.gone)],[.arr (.int .u8),.arr (.pair tI .str)]⟩),(.norm,⟨[],(6::ra 107 21 ([])),[(1,.box [.h 8,.h 9,.d (.d .bool),.d (.d tI)]),(2,.gone),(3,.gone)],[.arr (.int .u8),.arr (.pair tI .str)]⟩)] (.seq (.a) (.cond (.seq (.reg [] [] [z0,z0,z0,z0,.s [5] [],z0,.k [1,2,3,9],z0] (.ct (.a))) (.seq (.join [(.norm,⟨[(6,.r (.c (.d (.d tI))))],[122,123,124,125],[(1,.box [.h 10,.h 11,.d (.d .bool),.d (.d tI)]),(2,.gone),(9,.gone)],[.arr (.int .u8),.arr (.pair tI .str)]⟩)] (.seq (.a) (.cond (.reg [] [] [z0,.k [1,2,9,11,12],z0] (.ct (.a))) (.a)))) (.a))) (.a)))) (.a)))))))))
def m50:(Bool×Bool×Int×List Int×List (Int×List UInt8))→Option (Int×Bool×Int×Bool×Int×Bool×List (List UInt8)×List Int×List (Int×List UInt8)) :=
 fun x=>((nonM x.1).bind fun (x:Unit)=>some ()).bind fun (x_1:Unit)=>(m74 (0,lenM x.2.2.2.1,false,x.2.1,x.2.2.1,x.2.2.2.1,x.2.2.2.2)).bind fun r
 => bif PE.notM (eqM r.2.1 0) then some (r.2.1,r.2.2.1,r.2.2.2.1,true,0,false,[],r.2.2.2.2.1,r.2.2.2.2.2) else (m43 []).bind fun r_1=>(loopM (fun (s
 : List UInt8×Int×Bool×List (List UInt8))=>(bif ltM s.2.1 (lenM x.2.2.2.1) then byteM r.1 s.2.1 else some 0).bind fun r_2=>bif PE.andM (ltM s.2.1
 (lenM x.2.2.2.1)) (PE.notM (eqM r_2 0)) then (m75 (r.1,wrap .i64 (s.2.1+1))).bind fun r_3=>(byteM r.1 s.2.1).bind fun r_4=>bif PE.orM (PE.notM
 (eqM r_4 1)) (PE.notM (eqM r_3.2.2 0)) then some (Sum.inr (Sum.inr (372,s.2.1,s.2.2.1,s.2.2.2))) else (m57 (s.1,r_3.1)).bind fun r_5=>(bif PE.notM (ltM
 (lenM x.2.2.2.1) (wrap .i64 (r_3.2.1+32))) then sliceM r.1 r_3.2.1 (wrap .i64 (r_3.2.1+32)) else some []).bind fun r_6=>bif PE.orM (ltM
 (lenM x.2.2.2.1) (wrap .i64 (r_3.2.1+32))) (PE.notM (eqsM r_6 r_5)) then some (Sum.inr (Sum.inr (372,s.2.1,s.2.2.1,s.2.2.2))) else (appM (nat_lit
 16) s.2.2.2 [r_3.1]).bind fun r=>some (Sum.inl (r_5,wrap .i64 (r_3.2.1+32),s.2.2.1,r)) else some (Sum.inr (Sum.inl (s.2.1,s.2.2.1,s.2.2.2))))
 (r_1,0,false,[])).bind fun o=>Sum.elim (fun (t:Int×Bool×List (List UInt8))=>(mkM (wrap .i64 (lenM x.2.2.2.1-t.1)) (wrap IntKind.i64
 (lenM x.2.2.2.1-t.1)) (nat_lit 1) 0).bind fun r_2=>((sliceM r.1 t.1 (lenM r.1)).bind fun r_3=>bif PE.notM (eqsM r_3 (strB r_2)) then (m16 (t.1,strB
 r_2,false,r.2.2.1,r.2.2.2.1,r.2.2.2.2.1,r.2.2.2.2.2)).bind fun r_4=>(bif eqM r_4.1 0 then (m45 (false,r_4.2.1,r_4.2.2.1,r.2.2.2.2.1,
 r_4.2.2.2)).bind fun r=>some (r.1,r.2.1,r.2.2.1,r.2.2.2.1,r.2.2.2.2) else some (r_4.1,r_4.2.1,r_4.2.2.1,r.2.2.2.2.1,r_4.2.2.2)).bind fun o=>bif
 PE.notM (eqM o.1 0) then some (Sum.inl (o.1,o.2.1,o.2.2.1,o.2.2.2.1,o.2.2.2.2)) else some (Sum.inr (o.2.1,o.2.2.1,o.2.2.2.1,o.2.2.2.2)) else some
 (Sum.inr (r.2.2.1,r.2.2.2.1,r.2.2.2.2.1,r.2.2.2.2.2))).bind fun o=>Sum.elim (fun (t:Int×Bool×Int×List Int×List (Int×List UInt8))=>some
 (t.1,t.2.1,t.2.2.1,true,0,false,[],t.2.2.2.1,t.2.2.2.2)) (fun (t_1:Bool×Int×List Int×List (Int×List UInt8))=>some (0,t_1.1,t_1.2.1,
 false,t.1,t.2.1,t.2.2,t_1.2.2.1,t_1.2.2.2)) o) (fun (t:Int×Int×Bool×List (List UInt8))=>some (t.1,r.2.2.1,r.2.2.2.1,true,0,false,[],
 r.2.2.2.2.1,r.2.2.2.2.2)) o
theorem cp50:PSpecOK Tryz.prog 50 ⟨pa50,po50,pk50,[1],m50⟩ :=
 fnP_ok (own:=[5000000]) (an:=an50) (n:=400) tabs45OK (F:=OPS) OPS_sound OPS_nice (f:=50) (fn:=Tryz.f50) (code:=Tryz.f50.body.getD .skip) (by kernel_rfl) (by kernel_rfl) (by kernel_rfl) (by kernel_rfl) fun G w0 x=>by kernel_rfl
def tabs50:Tabs:=Tabs.addP tabs45 50 ⟨pa50,po50,pk50,[1],m50⟩
theorem tabs50OK:TabOK Tryz.prog tabs50:=TabOK.addP tabs45OK cp50

/-! putlog/putloglaw37.few -/
def as11:List Ty:=[(.list .str)]
def rs11:List Ty:=[(.list .str)]
def an11:Ann:=.seq (.a) (.seq (.a) (.seq (.seq (.a) (.block (.loop ⟨[(3,.r (.c (.h 0))),(4,.r (.c (.d (.d tI))))],(ra 5 24 ([])),[],[.arr .str]⟩ [(.exit 0,⟨[(3,.r (.c (.h 0)))],(ra 4 25 ([])),[],[.arr .str]⟩)] (.seq (.a) (.seq (.block (.reg [0,0,0,6,14,0,0,96,224,480,992,2046,4094,8191,16383] (ra 0 15 ([])) (za 13 (.s [0] [1,0]::z0::[])) (.a))) (.a)))))) (.a)))
def m11:List (List UInt8)→Option (List (List UInt8)) :=
 fun x=>(loopM (fun (s:Int×List (List UInt8))=>bif PE.andM (ltM s.1 (lenM x)) (ltM s.1 6) then (idxM x s.1).bind fun r=>(idxM x s.1).bind fun r_1 =>
 (sliceM r 0 (min (lenM r_1) 100)).bind fun r_2=>(appM (nat_lit 16) s.2 [r_2]).bind fun r=>some (Sum.inl (wrap .i64 (s.1+1),r)) else some
 (Sum.inr s.2)) (0,[])).bind fun o=>some o
theorem c11:SpecOK Tryz.prog 11 ⟨as11,rs11,m11⟩ :=
 fc tabs50OK [] an11 Tryz.f11 fun x=>by kernel_rfl
def tabs11:Tabs:=Tabs.add tabs50 11 ⟨as11,rs11,m11⟩
theorem tabs11OK:TabOK Tryz.prog tabs11:=TabOK.add tabs50OK c11 Tryz.call11

/-! putlog/putlogref01.PutString -/
def as73:List Ty:=[.str]
def rs73:List Ty:=[.str,tI]
def an73:Ann:=.a
def m73:List UInt8→Option (List UInt8×Int) :=
 fun x=>bif ltM 65536 (lenM x) then some ([],10) else (m56 (lenM x)).bind fun r=>(catM r.1 x).bind fun r=>some (r,0)
theorem c73:SpecOK Tryz.prog 73 ⟨as73,rs73,m73⟩ :=
 fc tabs11OK [] an73 Tryz.f73 fun x=>by kernel_rfl
def tabs73:Tabs:=Tabs.add tabs11 73 ⟨as73,rs73,m73⟩
theorem tabs73OK:TabOK Tryz.prog tabs73:=TabOK.add tabs11OK c73 Tryz.call73

/-! putlog/putlogref37.Stored -/
def pa44:List SR:=[.c (.d (.d .str)),.c (.d (.d .str))]
def po44:List SO:=[]
def pk44:Skel:=⟨[(1000000,.t [.c (.d (.d .str)),.c (.d (.d .str))])],[],[],[]⟩
def an44:Ann:=.a
def m44:(List UInt8×List UInt8)→Option (List UInt8×List UInt8) :=
 fun x=>(m57 (x.1,x.2)).bind fun r=>(m73 x.2).bind fun r_1=>(catM [(1:UInt8)] r_1.1).bind fun r_2=>(catM r_2 r).bind fun r_3=>some (r_3,r)
theorem cp44:PSpecOK Tryz.prog 44 ⟨pa44,po44,pk44,[],m44⟩ :=
 fnP_ok (own:=[5000000]) (an:=an44) (n:=400) tabs73OK (F:=OPS) OPS_sound OPS_nice (f:=44) (fn:=Tryz.f44) (code:=Tryz.f44.body.getD .skip) (by kernel_rfl) (by kernel_rfl) (by kernel_rfl) (by kernel_rfl) fun G w0 x=>by kernel_rfl
def tabs44:Tabs:=Tabs.addP tabs73 44 ⟨pa44,po44,pk44,[],m44⟩
theorem tabs44OK:TabOK Tryz.prog tabs44:=TabOK.addP tabs73OK cp44

/-! (*putlog/putlogref37.Journal).Room -/
def pa21:List SR:=[.c (.h 1)]
def po21:List SO:=[.opt [.h 2,.h 5,.d (.d tI),.d (.d .bool)],.opt [.h 3,.h 4,.d (.d .bool),.d (.d tI)],.arr (.int .u8),.arr (.pair tI .str),.arr .str]
def pk21:Skel:=⟨[(1000000,.r (.c (.d (.d tI))))],[],[],[]⟩
def an21:Ann:=.seq (.a) (.seq (.reg [0,1,3,7,15,31,63,127,0,256,768,1792,4095,8191] (ra 0 14 ([])) [z0,.s [1] [],z0,.s [1] [],.s [2] [],z0,.s [2] [],.s [3] [],z0,.s [1] [],z0,.s [1] [],z0,z0] (.a)) (.a))
def m21:(Bool×Int×Bool×Bool×Bool×Int×List Int×(List (Int×List UInt8))×List (List UInt8))→Option (Int) :=
 fun x=>((nonM x.1).bind fun (x_1:Unit)=>(nonM x.2.2.2.1).bind fun (x:Unit)=>some ()).bind fun (x_1:Unit)=>some (wrap .i64 (lenM
 x.2.2.2.2.2.2.1-x.2.1))
theorem cp21:PSpecOK Tryz.prog 21 ⟨pa21,po21,pk21,[1,2],m21⟩ :=
 fnP_ok (own:=[5000000]) (an:=an21) (n:=400) tabs44OK (F:=OPS) OPS_sound OPS_nice (f:=21) (fn:=Tryz.f21) (code:=Tryz.f21.body.getD .skip) (by kernel_rfl) (by kernel_rfl) (by kernel_rfl) (by kernel_rfl) fun G w0 x=>by kernel_rfl
def tabs21:Tabs:=Tabs.addP tabs44 21 ⟨pa21,po21,pk21,[1,2],m21⟩
theorem tabs21OK:TabOK Tryz.prog tabs21:=TabOK.addP tabs44OK cp21

/-! (*putlog/putlogref37.Journal).Append -/
def pa12:List SR:=[.c (.h 1),.c (.d (.d (.list .str)))]
def po12:List SO:=[.opt [.h 2,.h 5,.d (.d tI),.d (.d .bool)],.opt [.h 3,.h 4,.d (.d .bool),.d (.d tI)],.arr (.int .u8),.arr (.pair tI .str),.arr .str]
def pk12:Skel:=⟨[(1000000,.r (.c (.d (.d tI))))],[],[(1,.box [.h 2,.h 6,.d (.d tI),.d (.d .bool)]),(2,.box [.h 7,.h 8,.d (.d .bool),.d (.d tI)]),(3,.gone),(4,.gone),(5,.gone)],[.arr .str,.arr (.int .u8),.arr (.pair tI .str)]⟩
def an12:Ann:=.seq (.a) (.seq (.a) (.seq (.a) (.seq (.a) (.seq (.seq (.a) (.block (.loop ⟨[(5,.r (.c (.d (.d .str)))),(6,.r (.c (.d (.d .str)))),(7,.r (.c (.d (.d tI))))],(8::9::ra 21 25 ([])),[],[]⟩ [(.exit 0,⟨[(5,.r (.c (.d (.d .str))))],(6::7::8::9::ra 21 25 ([])),[],[]⟩),(.ret,⟨[(4,.r (.c (.d (.d tI))))],(5::6::7::8::9::ra 21 25 ([])),[],[]⟩)] (.seq (.a) (.seq (.block (.seq (.a) (.seq (.reg [] [] [z0,z0,z0,z0,z0,.k [],z0,z0,z0,z0,z0] (.ct (.a))) (.a)))) (.a)))))) (.seq (.seq (.reg [] [] [z0,z0,z0,.k [1,2,3,4,5],z0] (.ct (.a))) (.a)) (.seq (.a) (.seq (.reg [0,1,3,7,0,16,48,112,240,0,512,2047,4095] (ra 0 13 ([])) [z0,.s [1] [],z0,.s [1] [],z0,.s [1] [],z0,.s [1] [],z0,z0,z0,.k [2,3,4,8],z0] (.ct (.a))) (.seq (.join [(.norm,⟨[(10,.r (.c (.d (.d tI))))],(ra 65 7 ([])),[(2,.box [.h 9,.h 10,.d (.d .bool),.d (.d tI)]),(3,.gone),(8,.gone)],[.arr (.int .u8),.arr (.pair tI .str)]⟩)] (.seq (.a) (.cond (.reg [] [] [z0,.s [1] [],z0,.s [1] [],.k [2,3,8,10,11],z0] (.ct (.a))) (.a)))) (.seq (.join [(.norm,⟨[(10,.r (.c (.d (.d tI))))],(ra 72 13 ([])),[(2,.box [.h 9,.h 11,.d (.d .bool),.d (.d tI)]),(9,.arr (.int .u8)),(10,.gone)],[.arr (.pair tI .str)]⟩)] (.seq (.a) (.cond (.reg [0,1,3,7,0,16,48,112,0,256,1023,2047] (ra 0 12 ([])) [z0,.s [1] [],z0,.s [1] [],z0,.s [1] [],z0,.s [1] [],z0,z0,.k [2,9,10,12],z0] (.ct (.a))) (.a)))) (.seq (.join [(.norm,⟨[(10,.r (.c (.d (.d tI))))],(ra 85 7 ([])),[(2,.box [.h 12,.h 13,.d (.d .bool),.d (.d tI)]),(9,.gone),(11,.gone)],[.arr (.int .u8),.arr (.pair tI .str)]⟩)] (.seq (.a) (.cond (.reg [] [] [z0,.s [1] [],z0,.s [1] [],.k [2,9,11,13,14],z0] (.ct (.a))) (.a)))) (.a)))))))))))
def m12:(List (List UInt8)×Bool×Int×Bool×Bool×Bool×Int×List Int×(List (Int×List UInt8))×List (List UInt8))→Option (Int×Int×Bool×Bool×Int×List (List UInt8)×List Int×List (Int×List UInt8)) :=
 fun x=>((nonM x.2.1).bind fun (x_1:Unit)=>(nonM x.2.2.2.2.1).bind fun (x:Unit)=>some ()).bind fun (x_1:Unit)=>bif x.2.2.2.1 then some (370,
 x.2.2.1,x.2.2.2.1,x.2.2.2.2.2.1,x.2.2.2.2.2.2.1,x.2.2.2.2.2.2.2.2.2,x.2.2.2.2.2.2.2.1,x.2.2.2.2.2.2.2.2.1) else (m43 x.2.2.2.2.2.2.2.2.2).bind fun r =>
 (loopM (fun (s:List UInt8×List UInt8×Int)=>bif ltM s.2.2 (lenM x.1) then (idxM x.1 s.2.2).bind fun r_1=>bif ltM 65536 (lenM r_1) then some (Sum.inr
 (Sum.inr 370)) else (idxM x.1 s.2.2).bind fun r_2=>(m44 (s.2.1,r_2)).bind fun r_3=>(catM s.1 r_3.1).bind fun r=>some (Sum.inl (r,r_3.2,wrap
 IntKind.i64 (s.2.2+1))) else some (Sum.inr (Sum.inl s.1))) ([],r,0)).bind fun o=>Sum.elim (fun (t:List UInt8)=>(m21 (false,x.2.2.1,x.2.2.2.1,
 false,x.2.2.2.2.2.1,x.2.2.2.2.2.2.1,x.2.2.2.2.2.2.2.1,x.2.2.2.2.2.2.2.2.1,x.2.2.2.2.2.2.2.2.2)).bind fun r_1=>bif ltM r_1 (lenM t) then some (371,
 x.2.2.1,x.2.2.2.1,x.2.2.2.2.2.1,x.2.2.2.2.2.2.1,x.2.2.2.2.2.2.2.2.2,x.2.2.2.2.2.2.2.1,x.2.2.2.2.2.2.2.2.1) else bif eqsM t [] then some (0,x.2.2.1,
 x.2.2.2.1,x.2.2.2.2.2.1,x.2.2.2.2.2.2.1,x.2.2.2.2.2.2.2.2.2,x.2.2.2.2.2.2.2.1,x.2.2.2.2.2.2.2.2.1) else (sliceM t 1 (lenM t)).bind fun r_2=>(m16 (wrap
 IntKind.i64 (x.2.2.1+1),r_2,false,x.2.2.2.2.2.1,x.2.2.2.2.2.2.1,x.2.2.2.2.2.2.2.1,x.2.2.2.2.2.2.2.2.1)).bind fun r_3=>(bif eqM r_3.1 0 then (m45
 (false,r_3.2.1,r_3.2.2.1,x.2.2.2.2.2.2.2.1,r_3.2.2.2)).bind fun r=>some (r.1,r.2.1,r.2.2.1,r.2.2.2.1,r.2.2.2.2) else some (r_3.1,r_3.2.1,
 r_3.2.2.1,x.2.2.2.2.2.2.2.1,r_3.2.2.2)).bind fun o=>(bif eqM o.1 0 then (sliceM t 0 1).bind fun r=>(m16 (x.2.2.1,r,false,o.2.1,o.2.2.1,o.2.2.2.1,
 o.2.2.2.2)).bind fun r=>some (r.1,r.2.1,r.2.2.1,o.2.2.2.1,r.2.2.2) else some (o.1,o.2.1,o.2.2.1,o.2.2.2.1,o.2.2.2.2)).bind fun o_1=>(bif eqM o_1.1
 0 then (m45 (false,o_1.2.1,o_1.2.2.1,o_1.2.2.2.1,o_1.2.2.2.2)).bind fun r=>some (r.1,r.2.1,r.2.2.1,r.2.2.2.1,r.2.2.2.2) else some (o_1.1,o_1.2.1,
 o_1.2.2.1,o_1.2.2.2.1,o_1.2.2.2.2)).bind fun o_2=>bif PE.notM (eqM o_2.1 0) then some (o_2.1,x.2.2.1,true,o_2.2.1,o_2.2.2.1,x.2.2.2.2.2.2.2.2.2,
 o_2.2.2.2.1,o_2.2.2.2.2) else (appM (nat_lit 16) [] x.2.2.2.2.2.2.2.2.2).bind fun r_4=>(appM (nat_lit 16) r_4 x.1).bind fun r=>some (0,wrap IntKind.i64
 (x.2.2.1+lenM t),x.2.2.2.1,o_2.2.1,o_2.2.2.1,r,o_2.2.2.2.1,o_2.2.2.2.2)) (fun (t:Int)=>some (t,x.2.2.1,x.2.2.2.1,x.2.2.2.2.2.1,
 x.2.2.2.2.2.2.1,x.2.2.2.2.2.2.2.2.2,x.2.2.2.2.2.2.2.1,x.2.2.2.2.2.2.2.2.1)) o
theorem cp12:PSpecOK Tryz.prog 12 ⟨pa12,po12,pk12,[1,2],m12⟩ :=
 fnP_ok (own:=[5000000]) (an:=an12) (n:=400) tabs21OK (F:=OPS) OPS_sound OPS_nice (f:=12) (fn:=Tryz.f12) (code:=Tryz.f12.body.getD .skip) (by kernel_rfl) (by kernel_rfl) (by kernel_rfl) (by kernel_rfl) fun G w0 x=>by kernel_rfl
def tabs12:Tabs:=Tabs.addP tabs21 12 ⟨pa12,po12,pk12,[1,2],m12⟩
theorem tabs12OK:TabOK Tryz.prog tabs12:=TabOK.addP tabs21OK cp12

/-! putlog/putloglaw37.same -/
def as18:List Ty:=[(.list .str),(.list .str)]
def rs18:List Ty:=[.bool]
def an18:Ann:=.seq (.a) (.seq (.a) (.seq (.seq (.a) (.block (.loop ⟨[(5,.r (.c (.d (.d tI))))],(ra 11 15 ([])),[],[]⟩ [(.exit 0,⟨[],(5::ra 11 15 ([])),[],[]⟩),(.ret,⟨[(4,.r (.c (.d (.d .bool))))],(5::ra 11 15 ([])),[],[]⟩)] (.seq (.a) (.seq (.block (.seq (.reg [0,0,3,7,0,0,48,112,255] (ra 0 9 ([])) (za 9 ([])) (.a)) (.a))) (.a)))))) (.a)))
def m18:(List (List UInt8)×List (List UInt8))→Option (Bool) :=
 fun x=>bif PE.notM (eqM (lenM x.1) (lenM x.2)) then some false else (loopM (fun (s:Int)=>bif ltM s (lenM x.1) then (idxM x.1 s).bind fun r=>(idxM x.2
 s).bind fun r_1=>bif PE.notM (eqsM r r_1) then some (Sum.inr (Sum.inr false)) else some (Sum.inl (wrap .i64 (s+1))) else some (Sum.inr (Sum.inl
 ()))) 0).bind fun o=>Sum.elim (fun (t:Unit)=>some true) (fun (t:Bool)=>some t) o
theorem c18:SpecOK Tryz.prog 18 ⟨as18,rs18,m18⟩ :=
 fc tabs12OK [] an18 Tryz.f18 fun x=>by kernel_rfl
def tabs18:Tabs:=Tabs.add tabs12 18 ⟨as18,rs18,m18⟩
theorem tabs18OK:TabOK Tryz.prog tabs18:=TabOK.add tabs12OK c18 Tryz.call18

/-! (*putlog/disk.Disk).Cut -/
def pa29:List SR:=[.c (.h 1),.c (.d (.d tI))]
def po29:List SO:=[.opt [.d (.d .bool),.d (.d tI),.h 2,.h 3,.h 4],.arr (.int .u8),.arr (.int .u8),.arr (.pair tI .str)]
def pk29:Skel:=⟨[(1000000,.r (.c (.d (.d tI))))],[],[(1,.box [.d (.d .bool),.d (.d tI),.h 2,.h 3,.h 4])],[]⟩
def an29:Ann:=.seq (.a) (.seq (.seq (.reg [] [] [z0,.r,z0] (.call [5000000] [(.norm,⟨[(7,.r (.c (.d (.d tI))))],[],[],[]⟩)] (.seq (.a) (.a)) (.a))) (.a)) (.a))
def m29:(Int×Bool×Bool×Int×List Int×List Int×List (Int×List UInt8))→Option (Int×Bool×Int) :=
 fun x=>((nonM x.2.1).bind fun (x:Unit)=>some ()).bind fun (x_1:Unit)=>(bif x.2.2.1 then some 361 else some 0).bind fun (ov:Int)=>bif PE.notM (eqM
 ov 0) then some (ov,x.2.2.1,x.2.2.2.1) else bif ltM x.1 0 then some (2,x.2.2.1,x.2.2.2.1) else some (0,eqM x.1 0,x.1)
theorem cp29:PSpecOK Tryz.prog 29 ⟨pa29,po29,pk29,[1],m29⟩ :=
 fnP_ok (own:=[5000000]) (an:=an29) (n:=400) tabs18OK (F:=OPS) OPS_sound OPS_nice (f:=29) (fn:=Tryz.f29) (code:=Tryz.f29.body.getD .skip) (by kernel_rfl) (by kernel_rfl) (by kernel_rfl) (by kernel_rfl) fun G w0 x=>by kernel_rfl
def tabs29:Tabs:=Tabs.addP tabs18 29 ⟨pa29,po29,pk29,[1],m29⟩
theorem tabs29OK:TabOK Tryz.prog tabs29:=TabOK.addP tabs18OK cp29

/-! (*putlog/disk.Disk).Crash -/
def pa30:List SR:=[.c (.h 1),.c (.d (.d tL)),.c (.d (.d tI))]
def po30:List SO:=[.opt [.d (.d .bool),.d (.d tI),.h 2,.h 3,.h 4],.arr (.int .u8),.arr (.int .u8),.arr (.pair tI .str)]
def pk30:Skel:=⟨[(1000000,.r (.c (.d (.d tI))))],[],[(1,.box [.d (.d .bool),.d (.d tI),.h 2,.h 3,.h 5]),(2,.arr (.int .u8)),(3,.arr (.int .u8)),(4,.gone)],[.arr (.pair tI .str)]⟩
def an30:Ann:=.seq (.a) (.seq (.a) (.seq (.reg [] [] [z0,.r,.r,.s [9] [10,9],z0] (.call [5000000] [] (.seq (.a) (.a)) (.call [5000000] [] (.seq (.a) (.seq (.reg [] [] [z0,.r,z0] (.call [5000000] [] (.seq (.a) (.seq (.reg [] [] [z0,.r,z0] (.call [5000000] [] (.seq (.a) (.seq (.seq (.a) (.block (.call [5000000] [] (.seq (.a) (.block (.loop ⟨[(7,.r (.c (.d (.d tI))))],(4::ra 8 8 ([])),[(7,.box [.h 9]),(8,.lp .ready)],[.arr tI]⟩ [(.exit 0,⟨[],(4::ra 7 9 ([])),[(7,.box [.h 9]),(8,.lp .ready)],[.arr tI]⟩)] (.seq (.a) (.seq (.a) (.seq (.block (.seq (.a) (.seq (.reg [] [] [z0,z0,.r,z0] (.call [5000000] [] (.seq (.a) (.a)) (.a))) (.a)))) (.a))))))) (.a)))) (.a))) (.a))) (.a))) (.a))) (.a))) (.a)))) (.seq (.reg [] [] [z0,z0,.r,z0] (.call [2000038,2000041,5000000] [(.norm,⟨[(19,.r (.c (.h 11)))],[],[(10,.gone)],[.arr tI]⟩)] (.seq (.a) (.seq (.reg [] [] [z0,z0,.r,z0] (.call [5000000] [(.norm,⟨[(10,.r (.c (.d (.d tI))))],[],[],[]⟩)] (.seq (.a) (.seq (.seq (.a) (.block (.loop ⟨[(8,.r (.c (.d (.d tI))))],(5::ra 9 8 (18::[])),[],[]⟩ [(.exit 0,⟨[],(5::ra 8 9 (18::[])),[],[]⟩),(.ret,⟨[(4,.r (.c (.d (.d tI))))],(5::ra 8 11 ([])),[],[]⟩)] (.seq (.a) (.seq (.a) (.seq (.block (.seq (.a) (.seq (.reg [] [] [z0,z0,z0,.s [10] [],.s [10] [],.r] (.call [5000000] [] (.seq (.a) (.a)) (.a))) (.a)))) (.a))))))) (.a))) (.a))) (.seq (.a) (.seq (.seq (.a) (.block (.loop ⟨[(5,.r (.c (.d (.d tI)))),(6,.r (.c (.d (.d tI))))],(7::ra 16 20 ([])),[(10,.arr tI)],[]⟩ [(.exit 0,⟨[(5,.r (.c (.d (.d tI))))],(6::7::ra 16 20 ([])),[(10,.arr tI)],[]⟩)] (.seq (.a) (.seq (.join [(.norm,⟨[(5,.r (.c (.d (.d tI))))],(7::ra 22 14 ([])),[(10,.arr tI)],[]⟩)] (.block (.seq (.a) (.seq (.reg [] [] [z0,z0,.r,z0] (.call [5000000] [] (.seq (.a) (.a)) (.a))) (.a))))) (.a)))))) (.a))))) (.a))) (.seq (.seq (.a) (.block (.loop ⟨[(22,.r (.c (.d (.d tI))))],(8::9::10::ra 23 36 ([])),[(2,.arr (.int .u8))],[]⟩ [(.exit 0,⟨[],(8::9::10::ra 22 37 ([])),[(2,.arr (.int .u8))],[]⟩)] (.seq (.a) (.seq (.a) (.seq (.block (.seq (.a) (.seq (.a) (.seq (.join [(.norm,⟨[],(ra 34 18 ([])),[(12,.box [.d (.d tI),.d (.d .str)])],[]⟩)] (.a)) (.reg [0,0,2,6,14,31] (ra 0 6 ([])) [.s [12] [],.s [5] [],.s [1] [],z0,.s [1] [],.r] (.call [2000007,5000000] [] (.seq (.a) (.reg [0,0,2,7,0,16,63] (ra 0 7 ([])) [z0,z0,.s [13] [],.s [2] [],z0,.s [13] [],.s [2] [2]] (.a))) (.a))))))) (.a))))))) (.seq (.reg [0,0,2,6,14,0,32,96,224,511] (ra 0 10 ([])) [.s [5] [],.s [5] [],.s [1] [],z0,.s [1] [],.s [5] [],.s [1] [],z0,.s [1] [],.r] (.call [2000018,5000000] [] (.seq (.a) (.a)) (.a))) (.a))))))
def m30:(List Int×Int×Bool×Bool×Int×List Int×List Int×List (Int×List UInt8))→Option (Int×Bool×Int×List Int×List Int×List (Int×List UInt8)) :=
 fun x=>((nonM x.2.2.1).bind fun (x:Unit)=>some ()).bind fun (x_1:Unit)=>(loopM (fun (s:Int×List Int)=>bif ltM s.1 (lenM x.1) then (idxM x.1
 s.1).bind fun r=>(appM (nat_lit 8) s.2 [r]).bind fun r=>some (Sum.inl (wrap .i64 (s.1+1),r)) else some (Sum.inr s.2)) (0,[])).bind fun o =>
 (sortI o).bind fun r=>(compI r).bind fun r_1=>(((loopM (fun (s:Int)=>bif ltM s (lenM r_1) then (chkM s (lenM r_1)).bind fun r_2=>(idxM r_1 s).bind
 fun r=>bif PE.orM (ltM r 0) (leM (lenM x.2.2.2.2.2.2.2) r) then some (Sum.inr (Sum.inr s)) else some (Sum.inl (wrap .i64 (s+1))) else some (Sum.inr
 (Sum.inl ()))) 0).bind fun o=>Sum.elim (fun (t:Unit)=>some (-1)) (fun (t:Int)=>some t) o).bind fun (ov:Int)=>bif eqM ov (-1) then some r_1 else
 (loopM (fun (s:Int×Int×List Int)=>bif ltM s.2.1 (lenM s.2.2) then ((chkM s.2.1 (lenM s.2.2)).bind fun r_2=>(idxM s.2.2 s.2.1).bind fun r_3=>bif
 PE.notM (PE.orM (ltM r_3 0) (leM (lenM x.2.2.2.2.2.2.2) r_3)) then (chkM s.1 (lenM s.2.2)).bind fun r_4=>(setM s.2.2 s.1 fun (x:Int)=>some r_3).bind fun
 r=>some (wrap .i64 (s.1+1),r) else some (s.1,s.2.2)).bind fun o=>some (Sum.inl (o.1,wrap .i64 (s.2.1+1),o.2)) else some (Sum.inr
 (s.1,s.2.2))) (ov,wrap .i64 (ov+1),r_1)).bind fun o_1=>(chkM o_1.1 (lenM o_1.2)).bind fun r_2=>(sliceM (clrM o_1.2 o_1.1 0) 0 o_1.1).bind fun
 r=>some r).bind fun (ov:List Int)=>(loopM (fun (s:Int×List Int)=>bif ltM s.1 (lenM ov) then (chkM s.1 (lenM ov)).bind fun r_2=>(idxM ov
 s.1).bind fun r_3=>(chkM r_3 (lenM x.2.2.2.2.2.2.2)).bind fun r_4=>(idxM x.2.2.2.2.2.2.2 r_3).bind fun r_5=>(bif PE.andM (eqM s.1 (wrap IntKind.i64
 (lenM ov-1))) (leM 0 x.2.1) then (sliceM r_5.2 0 (min x.2.1 (lenM r_5.2))).bind fun r=>some (r_5.1,r) else some (r_5.1,r_5.2)).bind fun o_1=>(chkM
 o_1.1 (lenM s.2)).bind fun r_6=>(putM s.2 o_1.1 (byteI o_1.2)).bind fun r=>some (Sum.inl (wrap .i64 (s.1+1),r)) else some (Sum.inr s.2)) (0,
 x.2.2.2.2.2.1)).bind fun o_1=>(sliceM (zerosL x.2.2.2.2.2.2.2 (0,[])) 0 0).bind fun r=>some (0,false,0,o_1,copyM x.2.2.2.2.2.2.1 o_1,r)
theorem cp30:PSpecOK Tryz.prog 30 ⟨pa30,po30,pk30,[1],m30⟩ :=
 fnP_ok (own:=[5000000]) (an:=an30) (n:=400) tabs29OK (F:=OPS) OPS_sound OPS_nice (f:=30) (fn:=Tryz.f30) (code:=Tryz.f30.body.getD .skip) (by kernel_rfl) (by kernel_rfl) (by kernel_rfl) (by kernel_rfl) fun G w0 x=>by kernel_rfl
def tabs30:Tabs:=Tabs.addP tabs29 30 ⟨pa30,po30,pk30,[1],m30⟩
theorem tabs30OK:TabOK Tryz.prog tabs30:=TabOK.addP tabs29OK cp30

/-! (*putlog/putlogref36.Disk).Cut -/
def pa66:List SR:=[.c (.h 1),.c (.d (.d tI))]
def po66:List SO:=[.opt [.h 2,.h 3,.d (.d .bool),.d (.d tI)],.arr (.int .u8),.arr (.pair tI .str)]
def pk66:Skel:=⟨[(1000000,.r (.c (.d (.d tI))))],[],[(1,.box [.h 2,.h 3,.d (.d .bool),.d (.d tI)])],[]⟩
def an66:Ann:=.a
def m66:(Int×Bool×Bool×Int×List Int×List (Int×List UInt8))→Option (Int×Bool×Int) :=
 fun x=>((nonM x.2.1).bind fun (x:Unit)=>some ()).bind fun (x_1:Unit)=>bif x.2.2.1 then some (361,x.2.2.1,x.2.2.2.1) else bif ltM x.1 0 then some (2,
 x.2.2.1,x.2.2.2.1) else some (0,eqM x.1 0,x.1)
theorem cp66:PSpecOK Tryz.prog 66 ⟨pa66,po66,pk66,[1],m66⟩ :=
 fnP_ok (own:=[5000000]) (an:=an66) (n:=400) tabs30OK (F:=OPS) OPS_sound OPS_nice (f:=66) (fn:=Tryz.f66) (code:=Tryz.f66.body.getD .skip) (by kernel_rfl) (by kernel_rfl) (by kernel_rfl) (by kernel_rfl) fun G w0 x=>by kernel_rfl
def tabs66:Tabs:=Tabs.addP tabs30 66 ⟨pa66,po66,pk66,[1],m66⟩
theorem tabs66OK:TabOK Tryz.prog tabs66:=TabOK.addP tabs30OK cp66

/-! putlog/putlogref36.has -/
def as93:List Ty:=[tL,tI]
def rs93:List Ty:=[.bool]
def an93:Ann:=.seq (.a) (.seq (.seq (.a) (.block (.loop ⟨[(5,.r (.c (.d (.d tI))))],(ra 6 12 ([])),[],[]⟩ [(.exit 0,⟨[],(ra 5 13 ([])),[],[]⟩),(.ret,⟨[(4,.r (.c (.d (.d .bool))))],(ra 5 13 ([])),[],[]⟩)] (.a)))) (.a))
def m93:(List Int×Int)→Option (Bool) :=
 fun x=>(loopM (fun (s:Int)=>bif ltM s (lenM x.1) then (idxM x.1 s).bind fun r=>bif eqM r x.2 then some (Sum.inr (Sum.inr true)) else some (Sum.inl (wrap
 IntKind.i64 (s+1))) else some (Sum.inr (Sum.inl ()))) 0).bind fun o=>Sum.elim (fun (t:Unit)=>some false) (fun (t:Bool)=>some t) o
theorem c93:SpecOK Tryz.prog 93 ⟨as93,rs93,m93⟩ :=
 fc tabs66OK [] an93 Tryz.f93 fun x=>by kernel_rfl
def tabs93:Tabs:=Tabs.add tabs66 93 ⟨as93,rs93,m93⟩
theorem tabs93OK:TabOK Tryz.prog tabs93:=TabOK.add tabs66OK c93 Tryz.call93

/-! (*putlog/putlogref36.Disk).Crash -/
def pa67:List SR:=[.c (.h 1),.c (.d (.d tL)),.c (.d (.d tI))]
def po67:List SO:=[.opt [.h 2,.h 3,.d (.d .bool),.d (.d tI)],.arr (.int .u8),.arr (.pair tI .str)]
def pk67:Skel:=⟨[(1000000,.t [])],[],[(1,.box [.h 2,.h 4,.d (.d .bool),.d (.d tI)]),(2,.arr (.int .u8))],[.arr (.pair tI .str)]⟩
def an67:Ann:=.seq (.a) (.seq (.seq (.a) (.block (.loop ⟨[(6,.r (.c (.h 4))),(7,.r (.c (.d (.d tI))))],(ra 10 22 ([])),[],[.arr (.pair tI .str)]⟩ [(.exit 0,⟨[(6,.r (.c (.h 4)))],(7::ra 10 22 ([])),[],[.arr (.pair tI .str)]⟩)] (.seq (.a) (.seq (.join [(.norm,⟨[(6,.r (.c (.h 5)))],(ra 19 13 ([])),[(4,.gone)],[.arr (.pair tI .str)]⟩)] (.a)) (.a)))))) (.seq (.seq (.a) (.block (.loop ⟨[(8,.r (.c (.d (.d tI))))],(9::ra 32 40 ([])),[(2,.arr (.int .u8))],[]⟩ [(.exit 2,⟨[],(8::9::ra 32 40 ([])),[(2,.arr (.int .u8))],[]⟩)] (.seq (.a) (.seq (.block (.seq (.a) (.seq (.join [(.norm,⟨[(9,.r (.c (.d (.d .str))))],(ra 43 18 ([])),[],[]⟩)] (.a)) (.reg [0,1,3,7,0,0,48,112,240,0,1023] (ra 0 11 ([])) [z0,.s [1] [],z0,.s [1] [],z0,z0,.s [4] [],z0,.s [4] [],z0,.r] (.call [5000000] [] (.seq (.a) (.block (.loop ⟨[(6,.r (.c (.d (.d tI))))],(ra 7 14 ([])),[(2,.arr (.int .u8))],[]⟩ [(.exit 0,⟨[],(ra 6 15 ([])),[(2,.arr (.int .u8))],[]⟩)] (.a)))) (.a)))))) (.a)))))) (.a)))
def m67:(List Int×Int×Bool×Bool×Int×List Int×List (Int×List UInt8))→Option (Bool×Int×List Int×List (Int×List UInt8)) :=
 fun x=>((nonM x.2.2.1).bind fun (x:Unit)=>some ()).bind fun (x_1:Unit)=>(loopM (fun (s:Int×List (Int×List UInt8))=>bif ltM s.1 (lenM
 x.2.2.2.2.2.2) then ((m93 (x.1,s.1)).bind fun r=>bif r then (chkM s.1 (lenM x.2.2.2.2.2.2)).bind fun r_1=>(idxM x.2.2.2.2.2.2 s.1).bind fun r_2=>(appM
 (nat_lit 24) s.2 [(r_2.1,r_2.2)]).bind fun r=>some r else some s.2).bind fun o=>some (Sum.inl (wrap .i64 (s.1+1),o)) else some (Sum.inr s.2))
 (0,[])).bind fun o=>(loopM (fun (s:Int×List Int)=>bif ltM s.1 (lenM o) then (chkM s.1 (lenM o)).bind fun r=>((idxM o s.1).bind fun (x:Int×List
 UInt8)=>some x.2).bind fun r_1=>(bif PE.andM (PE.andM (eqM s.1 (wrap .i64 (lenM o-1))) (leM 0 x.2.1)) (ltM x.2.1 (lenM r_1)) then (sliceM r_1 0
 x.2.1).bind fun r=>some r else some r_1).bind fun o_1=>(chkM s.1 (lenM o)).bind fun r_2=>((idxM o s.1).bind fun (x:Int×List UInt8)=>some x.1).bind
 fun r_3=>(loopM (fun (s_1:Int×List Int)=>bif ltM s_1.1 (lenM o_1) then (byteM o_1 s_1.1).bind fun r_4=>(chkM (wrap .i64 (r_3+s_1.1)) (lenM
 s_1.2)).bind fun r_5=>(setM s_1.2 (wrap .i64 (r_3+s_1.1)) fun (x:Int)=>some r_4).bind fun r=>some (Sum.inl (wrap .i64 (s_1.1+1),r))
 else some (Sum.inr s_1.2)) (0,s.2)).bind fun o=>some (Sum.inl (wrap .i64 (s.1+1),o)) else some (Sum.inr s.2)) (0,x.2.2.2.2.2.1)).bind fun o =>
 some (false,0,o,[])
theorem cp67:PSpecOK Tryz.prog 67 ⟨pa67,po67,pk67,[1],m67⟩ :=
 fnP_ok (own:=[5000000]) (an:=an67) (n:=400) tabs93OK (F:=OPS) OPS_sound OPS_nice (f:=67) (fn:=Tryz.f67) (code:=Tryz.f67.body.getD .skip) (by kernel_rfl) (by kernel_rfl) (by kernel_rfl) (by kernel_rfl) fun G w0 x=>by kernel_rfl
def tabs67:Tabs:=Tabs.addP tabs93 67 ⟨pa67,po67,pk67,[1],m67⟩
theorem tabs67OK:TabOK Tryz.prog tabs67:=TabOK.addP tabs93OK cp67

/-! (*putlog/disk.Disk).Pending -/
def pa32:List SR:=[.c (.h 1)]
def po32:List SO:=[.opt [.d (.d .bool),.d (.d tI),.h 2,.h 3,.h 4],.arr (.int .u8),.arr (.int .u8),.arr (.pair tI .str)]
def pk32:Skel:=⟨[(1000000,.r (.c (.d (.d tI))))],[],[],[]⟩
def an32:Ann:=.a
def m32:(Bool×Bool×Int×List Int×List Int×List (Int×List UInt8))→Option (Int) :=
 fun x=>((nonM x.1).bind fun (x:Unit)=>some ()).bind fun (x_1:Unit)=>some (lenM x.2.2.2.2.2)
theorem cp32:PSpecOK Tryz.prog 32 ⟨pa32,po32,pk32,[1],m32⟩ :=
 fnP_ok (own:=[5000000]) (an:=an32) (n:=400) tabs67OK (F:=OPS) OPS_sound OPS_nice (f:=32) (fn:=Tryz.f32) (code:=Tryz.f32.body.getD .skip) (by kernel_rfl) (by kernel_rfl) (by kernel_rfl) (by kernel_rfl) fun G w0 x=>by kernel_rfl
def tabs32:Tabs:=Tabs.addP tabs67 32 ⟨pa32,po32,pk32,[1],m32⟩
theorem tabs32OK:TabOK Tryz.prog tabs32:=TabOK.addP tabs67OK cp32

/-! putlog/putloglaw37.JournalMatchesReference -/
def as7:List Ty:=[tI,(.list (.pair tI (.pair (.list .str) (.pair tI tL))))]
def rs7:List Ty:=[.bool]
def an7_0:Ann:=.gq z0 (.a) (.gq z0 (.a) (.gq z0 (.a) (.gq (.s [9] []) (.a) (.gq (.k [1,2,3,26]) (.a) (.gq z0 (.a) (.gq z0 (.a) (.gq z0 (.a) (.gq (.s [9] []) (.a) (.gq (.k [6,27,28,35]) (.a) (.gq (.s [35] []) (.a) (.gq z0 (.a) (.gq z0 (.a) (.a)))))))))))))
def an7_2:Ann:=.gq z0 (.a) (.gq z0 (.a) (.gq z0 (.a) (.gq (.s [9] []) (.a) (.gq (.s [6] []) (.a) (.gq z0 (.a) (.gq (.s [6] []) (.a) (.gq z0 (.a) (.gq z0 (.a) an7_0))))))))
def an7_1:Ann:=.gq z0 (.a) (.gq z0 (.a) (.gq z0 (.a) (.gq (.s [9] []) (.a) (.gq (.k [29,32,1,2,3,26]) (.a) (.gq z0 (.a) (.gq z0 (.a) (.gq z0 (.a) (.gq (.s [9] []) (.a) (.gq (.k [30,6,27,28,31]) (.a) (.gq z0 (.a) (.gq z0 (.a) (.a))))))))))))
def an7:Ann:=.seq (.a) (.seq (.a) (.seq (.reg [] [] [z0,.r,z0,z0,z0,z0,z0] (.call [] [] (.seq (.a) (.seq (.reg [] [] [z0,z0,.k [1,2,3,4],z0,z0,z0,z0,z0] (.ct (.a))) (.seq (.reg [] [] [z0,z0,.k [6,7,8],z0,z0,z0,z0,z0] (.ct (.a))) (.seq (.a) (.seq (.reg [] [] [z0,.r,z0] (.call [] [] (.seq (.a) (.seq (.reg [] [] [z0,z0,z0,.s [9] [],.k [1,2,3,4,11,12,13],z0,z0,z0,z0,z0] (.ct (.a))) (.seq (.reg [] [] [z0,z0,z0,.s [9] [],.k [6,7,8,15,16,17,18],z0,z0,z0,z0,z0] (.ct (.a))) (.a)))) (.a))) (.a)))))) (.a))) (.seq (.a) (.seq (.seq (.a) (.block (.loop ⟨[(8,.r (.c (.d (.d tI))))],(9::ra 18 92 ([])),[(1,.box [.d (.d .bool),.d (.d tI),.h 2,.h 3,.h 19]),(2,.arr (.int .u8)),(3,.arr (.int .u8)),(6,.box [.h 20,.h 21,.d (.d .bool),.d (.d tI)]),(9,.box [.h 1,.h 22,.h 6,.h 23]),(11,.gone),(12,.gone),(13,.gone),(15,.gone),(16,.gone),(17,.gone),(18,.gone)],[.arr (.pair tI .str),.arr (.int .u8),.arr (.pair tI .str),.opt [.h 25,.d (.d .str),.d (.d tI),.h 1,.d (.d .bool)],.opt [.h 6,.h 24,.d (.d tI),.d (.d .bool)],.arr .str,.arr .str]⟩ [(.exit 0,⟨[],(8::9::ra 18 92 ([])),[(1,.box [.d (.d .bool),.d (.d tI),.h 2,.h 3,.h 19]),(2,.arr (.int .u8)),(3,.arr (.int .u8)),(6,.box [.h 20,.h 21,.d (.d .bool),.d (.d tI)]),(9,.box [.h 1,.h 22,.h 6,.h 23]),(11,.gone),(12,.gone),(13,.gone),(15,.gone),(16,.gone),(17,.gone),(18,.gone)],[.arr (.pair tI .str),.arr (.int .u8),.arr (.pair tI .str),.opt [.h 25,.d (.d .str),.d (.d tI),.h 1,.d (.d .bool)],.opt [.h 6,.h 24,.d (.d tI),.d (.d .bool)],.arr .str,.arr .str]⟩),(.ret,⟨[(4,.r (.c (.d (.d .bool))))],(8::9::ra 18 92 ([])),[(1,.box [.d (.d .bool),.d (.d tI),.h 2,.h 3,.h 19]),(2,.arr (.int .u8)),(3,.arr (.int .u8)),(6,.box [.h 20,.h 21,.d (.d .bool),.d (.d tI)]),(9,.box [.h 1,.h 22,.h 6,.h 23]),(11,.gone),(12,.gone),(13,.gone),(15,.gone),(16,.gone),(17,.gone),(18,.gone)],[.arr (.pair tI .str),.arr (.int .u8),.arr (.pair tI .str),.opt [.h 25,.d (.d .str),.d (.d tI),.h 1,.d (.d .bool)],.opt [.h 6,.h 24,.d (.d tI),.d (.d .bool)],.arr .str,.arr .str]⟩)] (.seq (.a) (.seq (.join [(.ret,⟨[(4,.r (.c (.d (.d .bool))))],(9::ra 28 82 ([])),[(1,.box [.d (.d .bool),.d (.d tI),.h 2,.h 3,.h 26]),(2,.arr (.int .u8)),(3,.arr (.int .u8)),(6,.box [.h 27,.h 28,.d (.d .bool),.d (.d tI)]),(9,.box [.h 1,.h 29,.h 6,.h 30]),(19,.gone),(20,.gone),(21,.gone),(22,.gone),(23,.gone),(24,.gone),(25,.gone)],[.arr (.pair tI .str),.arr (.int .u8),.arr (.pair tI .str),.opt [.h 32,.d (.d .str),.d (.d tI),.h 1,.d (.d .bool)],.opt [.h 6,.h 31,.d (.d tI),.d (.d .bool)],.arr .str,.arr .str]⟩),(.norm,⟨[],(9::ra 28 82 ([])),[(1,.box [.d (.d .bool),.d (.d tI),.h 2,.h 3,.h 26]),(2,.arr (.int .u8)),(3,.arr (.int .u8)),(6,.box [.h 27,.h 28,.d (.d .bool),.d (.d tI)]),(9,.box [.h 1,.h 29,.h 6,.h 30]),(19,.gone),(20,.gone),(21,.gone),(22,.gone),(23,.gone),(24,.gone),(25,.gone)],[.arr (.pair tI .str),.arr (.int .u8),.arr (.pair tI .str),.opt [.h 32,.d (.d .str),.d (.d tI),.h 1,.d (.d .bool)],.opt [.h 6,.h 31,.d (.d tI),.d (.d .bool)],.arr .str,.arr .str]⟩)] (.block (.seq (.reg [] [] [z0,z0,z0,z0,z0,.r,z0] (.call [] [(.norm,⟨[(33,.r (.c (.d (.d .bool))))],[],[(1,.box [.d (.d .bool),.d (.d tI),.h 2,.h 3,.h 26]),(2,.arr (.int .u8)),(3,.arr (.int .u8)),(6,.box [.h 27,.h 28,.d (.d .bool),.d (.d tI)]),(9,.box [.h 1,.h 29,.h 6,.h 30]),(19,.gone),(20,.gone),(21,.gone),(22,.gone),(23,.gone),(24,.gone),(25,.gone)],[.arr (.pair tI .str),.arr (.int .u8),.arr (.pair tI .str),.opt [.h 32,.d (.d .str),.d (.d tI),.h 1,.d (.d .bool)],.opt [.h 6,.h 31,.d (.d tI),.d (.d .bool)],.arr .str,.arr .str]⟩)] (.seq (.a) (.seq (.seq (.a) (.block (.seq (.a) (.cond (.seq (.reg [0,1,3,7,0,16,48,112,255,0,512,1536,3584,0,8192,25087,57855,131071,262143,524287] (ra 0 20 ([])) [z0,z0,z0,.s [9] [],z0,.s [26] [],z0,z0,.k [1,2,3,19],z0,z0,z0,.s [9] [],z0,.s [26] [],z0,z0,.k [6,20,21],z0,z0] (.ct (.ct (.a)))) (.a)) (.seq (.a) (.cond (.seq (.a) (.seq (.reg [0,1,3,7,0,0,32,127] (ra 0 8 ([])) [z0,z0,z0,.s [9] [],z0,z0,.s [26] [],.k [1,2,3,19,28]] (.ct (.a))) (.seq (.reg [0,1,3,7,0,0,32,127] (ra 0 8 ([])) [z0,z0,z0,.s [9] [],z0,z0,.s [26] [],.k [6,20,21,30]] (.ct (.a))) (.seq (.reg [] [] [z0,.r,z0] (.call [] [] (.seq (.a) (.seq (.reg [] [] [z0,z0,z0,.s [9] [],.k [1,2,3,28,32,33,34],z0,z0,z0,z0,z0] (.ct (.a))) (.seq (.reg [] [] [z0,z0,z0,.s [9] [],.k [6,20,30,36,37,38,39],z0,z0,z0,z0,z0] (.ct (.a))) (.a)))) (.a))) (.a))))) (.seq (.a) (.cond (.seq (.reg [] [] [z0,.r,z0] (.call [] [] (.seq (.a) (.seq (.reg [] [] [z0,z0,z0,.s [9] [],.k [1,2,3,19,28,29,30],z0,z0,z0,z0,z0] (.ct (.a))) (.seq (.reg [] [] [z0,z0,z0,.s [9] [],.k [6,20,21,32,33,34,35],z0,z0,z0,z0,z0] (.ct (.a))) (.a)))) (.a))) (.a)) (.a))))))))) (.seq (.seq (.a) (.cond (.seq (.reg [0,1,3,7,0,16,48,127,255,511] (ra 0 10 ([])) [z0,z0,z0,.s [9] [],z0,.s [26] [],z0,.k [22,25,1,2,3,19,28,29],z0,z0] (.ct (.a))) (.a)) (.a))) (.seq (.reg [0,1,3,7,0,16,48,127,0,256,768,1792,0,4096,12543,32767,65535,131071] (ra 0 18 ([])) [z0,z0,z0,.s [9] [],z0,.s [26] [],z0,.k [22,25,1,2,3,19,28,29],z0,z0,z0,.s [9] [],z0,.s [26] [],z0,.k [23,6,20,21,24,31,32,33],z0,z0] (.ct (.ct (.a)))) (.a))))) (.a))) (.seq (.join [(.ret,⟨[(4,.r (.c (.d (.d .bool))))],(ra 34 42 ([])),[(1,.box [.d (.d .bool),.d (.d tI),.h 2,.h 3,.h 26]),(2,.arr (.int .u8)),(3,.arr (.int .u8)),(6,.box [.h 27,.h 28,.d (.d .bool),.d (.d tI)]),(26,.arr (.pair tI .str)),(27,.arr (.int .u8)),(28,.arr (.pair tI .str))],[]⟩),(.norm,⟨[],(ra 34 42 ([])),[(1,.box [.d (.d .bool),.d (.d tI),.h 2,.h 3,.h 26]),(2,.arr (.int .u8)),(3,.arr (.int .u8)),(6,.box [.h 27,.h 28,.d (.d .bool),.d (.d tI)]),(26,.arr (.pair tI .str)),(27,.arr (.int .u8)),(28,.arr (.pair tI .str))],[]⟩)] (.seq (.reg [0,1,3,7,15,31,63,127,7,263,775,1799,3847,7943,16135,32519,65535,131071,262143,524287,1048575,2097151,4194303,8388607,16777215,33554431,67108863,134217727,268435455,536870911,1073741823,2147483647,4294967295,268435455,8858370047,26038239231,60397977599,137438953471,274877906943,549755813887,1099511627775,2199023255551] (ra 0 42 ([])) [z0,z0,z0,z0,z0,z0,.s [9] [],.k [1,2,3,26],z0,z0,z0,.s [9] [],.s [6] [],z0,.s [6] [],.s [28] [],z0,z0,z0,z0,z0,z0,.s [9] [],.s [6] [],z0,.s [6] [],z0,z0,z0,z0,z0,.s [9] [],.k [1,2,3,26],z0,z0,z0,.s [9] [],.k [6,27,28,35],.s [35] [],z0,z0,z0] (.gs (.gq z0 (.gq z0 (.gq z0 (.gq (.s [9] []) (.gq (.k [1,2,3,26]) (.ct (.gq z0 (.gq z0 (.gq z0 (.gq (.s [9] []) (.gq (.s [6] []) (.gq z0 (.gq (.s [6] []) (.gq (.s [28] []) (.gq z0 (.gs (.gq z0 (.gq z0 (.gq z0 (.gq (.s [9] []) (.gq (.s [6] []) (.gq z0 (.gq (.s [6] []) (.gq z0 (.gq z0 (.gs (.gq z0 (.gq z0 (.gq z0 (.gq (.s [9] []) (.gq (.k [1,2,3,26]) (.kp [] ⟨[(66,.r (.c (.d (.d .str))))],[],[(1,.box [.d (.d .bool),.d (.d tI),.h 2,.h 3,.h 26]),(2,.arr (.int .u8)),(3,.arr (.int .u8)),(26,.arr (.pair tI .str))],[]⟩ (.seq (.a) (.seq (.reg [] [] [z0,z0,.k [1,2,3,26],.k [1,2,3,26],z0,z0,z0,z0,z0] (.ct (.ct (.a)))) (.a))) (.gq z0 (.gq z0 (.gq z0 (.gq (.s [9] []) (.gq (.k [6,27,28,35]) (.ct (.gq (.s [35] []) (.gq z0 (.gq z0 (.a) (.a)) (.a)) (.a))) (.a)) (.a)) (.a)) (.a)) (.a))) (.a)) (.a)) (.a)) (.a)) (.a)) an7_0) (.a)) (.a)) (.a)) (.a)) (.a)) (.a)) (.a)) (.a)) (.a)) an7_2) (.a)) (.a)) (.a)) (.a)) (.a)) (.a)) (.a)) (.a)) (.a))) (.a)) (.a)) (.a)) (.a)) (.a)) (.gq z0 (.a) (.gq z0 (.a) (.gq z0 (.a) (.gq (.s [9] []) (.a) (.gq (.k [1,2,3,26]) (.a) (.gq z0 (.a) (.gq z0 (.a) (.gq z0 (.a) (.gq (.s [9] []) (.a) (.gq (.s [6] []) (.a) (.gq z0 (.a) (.gq (.s [6] []) (.a) (.gq (.s [28] []) (.a) (.gq z0 (.a) an7_2)))))))))))))))) (.a))) (.seq (.reg [0,1,3,7,15,31,63,127,255,511,1023,63,2111,6207,14399,30783,63551,129087,262143,524287,1048575,2097151,4194303,8388607,16777215,33554431,2097151,69206015,203423743,471859199,1073741823,2147483647,4294967295,8589934591] (ra 0 34 ([])) [z0,z0,z0,.s [9] [],.s [29] [],z0,z0,z0,z0,.s [9] [],.k [29,32,1,2,3,26,34],z0,z0,z0,.s [9] [],.s [30] [],z0,.s [30] [],.s [34,31] [],z0,z0,z0,z0,z0,.s [9] [],.k [29,32,1,2,3,26],z0,z0,z0,.s [9] [],.k [30,6,27,28,31],z0,z0,z0] (.gs (.gq z0 (.gq z0 (.gq z0 (.gq (.s [9] []) (.gq (.k [29,32,1,2,3,26,34]) (.ct (.gq z0 (.gq z0 (.gq z0 (.gq (.s [9] []) (.gq (.s [30] []) (.gq z0 (.gq (.s [30] []) (.gq (.s [34,31] []) (.gq z0 (.gq z0 (.gs (.gq z0 (.gq z0 (.gq z0 (.gq (.s [9] []) (.gq (.k [29,32,1,2,3,26]) (.ct (.gq z0 (.gq z0 (.gq z0 (.gq (.s [9] []) (.gq (.k [30,6,27,28,31]) (.ct (.gq z0 (.gq z0 (.a) (.a)) (.a))) (.a)) (.a)) (.a)) (.a)) (.a))) (.a)) (.a)) (.a)) (.a)) (.a)) an7_1) (.a)) (.a)) (.a)) (.a)) (.a)) (.a)) (.a)) (.a)) (.a)) (.a))) (.a)) (.a)) (.a)) (.a)) (.a)) (.gq z0 (.a) (.gq z0 (.a) (.gq z0 (.a) (.gq (.s [9] []) (.a) (.gq (.k [29,32,1,2,3,26,34]) (.a) (.gq z0 (.a) (.gq z0 (.a) (.gq z0 (.a) (.gq (.s [9] []) (.a) (.gq (.s [30] []) (.a) (.gq z0 (.a) (.gq (.s [30] []) (.a) (.gq (.s [34,31] []) (.a) (.gq z0 (.a) (.gq z0 (.a) an7_1))))))))))))))))) (.a)))))) (.a)))))) (.a)))))
def m7:(Int×List (Int×List (List UInt8)×Int×List Int))→Option (Bool) :=
 fun x=>(m8 ()).bind fun r=>(m15 x.1).bind fun r_1=>(m24 r_1).bind fun r_2=>(m15 x.1).bind fun r_3=>(m33 r_3).bind fun r_4=>(m25 (r_2.2.1,r_2.2.2.1,
 r_2.2.2.2.1,r_2.2.2.2.2.1,r_2.2.2.2.2.2.1,r_2.2.2.2.2.2.2)).bind fun r_5=>(m50 (r_4.2.1,r_4.2.2.1,r_4.2.2.2.1,r_4.2.2.2.2.1,r_4.2.2.2.2.2)).bind fun
 r_6=>bif PE.notM (PE.andM (eqM r_5.1 r_6.1) (eqbM (PE.notM (eqM r_5.1 0)) r_5.2.2.2.2.2.1)) then some false else (loopM (fun (s:Int×Bool×Int×List
 Int×List Int×Bool×Int×List (Int×List UInt8)×List Int×List (Int×List UInt8)×Bool×List UInt8×Int×Bool×Bool×Int×Bool×List (List
 UInt8)×List (List UInt8))=>bif PE.andM (ltM s.1 (lenM x.2)) (ltM s.1 25) then ((idxM x.2 s.1).bind fun r_7=>((m14 (r_7.1,8)).bind fun r_8=>bif eqM
 r_8 5 then (m14 (r_7.2.2.1,5)).bind fun r_9=>(m29 (wrap .i64 (1+r_9),false,s.2.1,s.2.2.1,s.2.2.2.1,s.2.2.2.2.1,s.2.2.2.2.2.2.2.1)).bind fun
 r_10=>(m14 (r_7.2.2.1,5)).bind fun r=>(m66 (wrap .i64 (1+r),false,s.2.2.2.2.2.1,s.2.2.2.2.2.2.1,s.2.2.2.2.2.2.2.2.1,
 s.2.2.2.2.2.2.2.2.2.1)).bind fun r=>some (eqM r_10.1 r.1,r_10.2.1,r_10.2.2,s.2.2.2.1,s.2.2.2.2.1,r.2.1,r.2.2,s.2.2.2.2.2.2.2.1,s.2.2.2.2.2.2.2.2.1,
 s.2.2.2.2.2.2.2.2.2.1,s.2.2.2.2.2.2.2.2.2.2.1,s.2.2.2.2.2.2.2.2.2.2.2.1,s.2.2.2.2.2.2.2.2.2.2.2.2.1,s.2.2.2.2.2.2.2.2.2.2.2.2.2.1,
 s.2.2.2.2.2.2.2.2.2.2.2.2.2.2.1,s.2.2.2.2.2.2.2.2.2.2.2.2.2.2.2.1,s.2.2.2.2.2.2.2.2.2.2.2.2.2.2.2.2.1,s.2.2.2.2.2.2.2.2.2.2.2.2.2.2.2.2.2.1,
 s.2.2.2.2.2.2.2.2.2.2.2.2.2.2.2.2.2.2) else bif eqM r_8 6 then (sliceM r_7.2.2.2 0 (min (lenM r_7.2.2.2) 20)).bind fun r=>(m30 (r,r_7.2.2.1,false,s.2.1,
 s.2.2.1,s.2.2.2.1,s.2.2.2.2.1,s.2.2.2.2.2.2.2.1)).bind fun r_9=>(m67 (r,r_7.2.2.1,false,s.2.2.2.2.2.1,s.2.2.2.2.2.2.1,s.2.2.2.2.2.2.2.2.1,
 s.2.2.2.2.2.2.2.2.2.1)).bind fun r=>(m25 (false,r_9.2.1,r_9.2.2.1,r_9.2.2.2.1,r_9.2.2.2.2.1,r_9.2.2.2.2.2)).bind fun r_10=>(m50 (false,r.1,r.2.1,
 r.2.2.1,r.2.2.2)).bind fun r=>some (PE.andM (eqM r_10.1 r.1) (eqbM (PE.notM (eqM r_10.1 0)) r_10.2.2.2.2.2.1),r_10.2.1,r_10.2.2.1,r_10.2.2.2.1,
 r_10.2.2.2.2.1,r.2.1,r.2.2.1,r_10.2.2.2.2.2.2.2.2.2.2,r.2.2.2.2.2.2.2.1,r.2.2.2.2.2.2.2.2,r_10.2.2.2.2.2.1,r_10.2.2.2.2.2.2.1,r_10.2.2.2.2.2.2.2.1,
 r_10.2.2.2.2.2.2.2.2.1,r.2.2.2.1,r.2.2.2.2.1,r.2.2.2.2.2.1,r.2.2.2.2.2.2.1,r_10.2.2.2.2.2.2.2.2.2.1) else bif eqM r_8 7 then (m25 (false,s.2.1,s.2.2.1,
 s.2.2.2.1,s.2.2.2.2.1,s.2.2.2.2.2.2.2.1)).bind fun r=>(m50 (false,s.2.2.2.2.2.1,s.2.2.2.2.2.2.1,s.2.2.2.2.2.2.2.2.1,s.2.2.2.2.2.2.2.2.2.1)).bind fun
 r_9=>some (PE.andM (eqM r.1 r_9.1) (eqbM (PE.notM (eqM r.1 0)) r.2.2.2.2.2.1),r.2.1,r.2.2.1,r.2.2.2.1,r.2.2.2.2.1,r_9.2.1,r_9.2.2.1,
 r.2.2.2.2.2.2.2.2.2.2,r_9.2.2.2.2.2.2.2.1,r_9.2.2.2.2.2.2.2.2,r.2.2.2.2.2.1,r.2.2.2.2.2.2.1,r.2.2.2.2.2.2.2.1,r.2.2.2.2.2.2.2.2.1,r_9.2.2.2.1,
 r_9.2.2.2.2.1,r_9.2.2.2.2.2.1,r_9.2.2.2.2.2.2.1,r.2.2.2.2.2.2.2.2.2.1) else bif s.2.2.2.2.2.2.2.2.2.2.1 then (m11 r_7.2.1).bind fun r=>(m10 (r,
 s.2.2.2.2.2.2.2.2.2.2.1,s.2.2.2.2.2.2.2.2.2.2.2.1,s.2.2.2.2.2.2.2.2.2.2.2.2.1,s.2.2.2.2.2.2.2.2.2.2.2.2.2.1,s.2.2.2.2.2.2.2.2.2.2.2.2.2.2.2.2.2.2,false,
 s.2.1,s.2.2.1,s.2.2.2.1,s.2.2.2.2.1,s.2.2.2.2.2.2.2.1)).bind fun r=>some (eqM r.1 1,r.2.2.2.2.2.1,r.2.2.2.2.2.2.1,r.2.2.2.2.2.2.2.1,
 r.2.2.2.2.2.2.2.2.1,s.2.2.2.2.2.1,s.2.2.2.2.2.2.1,r.2.2.2.2.2.2.2.2.2.2,s.2.2.2.2.2.2.2.2.1,s.2.2.2.2.2.2.2.2.2.1,r.2.1,r.2.2.1,r.2.2.2.1,
 r.2.2.2.2.1,s.2.2.2.2.2.2.2.2.2.2.2.2.2.2.1,s.2.2.2.2.2.2.2.2.2.2.2.2.2.2.2.1,s.2.2.2.2.2.2.2.2.2.2.2.2.2.2.2.2.1,s.2.2.2.2.2.2.2.2.2.2.2.2.2.2.2.2.2.1,
 r.2.2.2.2.2.2.2.2.2.1) else (m11 r_7.2.1).bind fun r_9=>(m10 (r_9,s.2.2.2.2.2.2.2.2.2.2.1,s.2.2.2.2.2.2.2.2.2.2.2.1,s.2.2.2.2.2.2.2.2.2.2.2.2.1,
 s.2.2.2.2.2.2.2.2.2.2.2.2.2.1,s.2.2.2.2.2.2.2.2.2.2.2.2.2.2.2.2.2.2,false,s.2.1,s.2.2.1,s.2.2.2.1,s.2.2.2.2.1,s.2.2.2.2.2.2.2.1)).bind fun r_10=>(m11
 r_7.2.1).bind fun r=>(m12 (r,s.2.2.2.2.2.2.2.2.2.2.2.2.2.2.1,s.2.2.2.2.2.2.2.2.2.2.2.2.2.2.2.1,s.2.2.2.2.2.2.2.2.2.2.2.2.2.2.2.2.1,false,s.2.2.2.2.2.1,
 s.2.2.2.2.2.2.1,s.2.2.2.2.2.2.2.2.1,s.2.2.2.2.2.2.2.2.2.1,s.2.2.2.2.2.2.2.2.2.2.2.2.2.2.2.2.2.1)).bind fun r=>some (eqM r_10.1 r.1,r_10.2.2.2.2.2.1,
 r_10.2.2.2.2.2.2.1,r_10.2.2.2.2.2.2.2.1,r_10.2.2.2.2.2.2.2.2.1,r.2.2.2.1,r.2.2.2.2.1,r_10.2.2.2.2.2.2.2.2.2.2,r.2.2.2.2.2.2.1,r.2.2.2.2.2.2.2,
 r_10.2.1,r_10.2.2.1,r_10.2.2.2.1,r_10.2.2.2.2.1,false,r.2.1,r.2.2.1,r.2.2.2.2.2.1,r_10.2.2.2.2.2.2.2.2.2.1)).bind fun (ov:Bool×Bool×Int×List
 Int×List Int×Bool×Int×List (Int×List UInt8)×List Int×List (Int×List UInt8)×Bool×List UInt8×Int×Bool×Bool×Int×Bool×List (List
 UInt8)×List (List UInt8))=>(bif PE.notM (PE.notM ov.1) then (m32 (false,ov.2.1,ov.2.2.1,ov.2.2.2.1,ov.2.2.2.2.1,ov.2.2.2.2.2.2.2.1)).bind fun r =>
 bif PE.notM (PE.orM false (PE.notM (eqM r (lenM ov.2.2.2.2.2.2.2.2.2.1)))) then bif PE.notM ov.2.2.2.2.2.1 then ((m51 (false,ov.2.1,ov.2.2.1,ov.2.2.2.1,
 ov.2.2.2.2.1,ov.2.2.2.2.2.2.2.1)).bind fun r=>(m52 (0,r,false,ov.2.1,ov.2.2.1,ov.2.2.2.1,ov.2.2.2.2.1,ov.2.2.2.2.2.2.2.1)).bind fun r=>some (r.1,
 ov.2.1,ov.2.2.1,ov.2.2.2.1,ov.2.2.2.2.1,ov.2.2.2.2.2.2.2.1)).bind fun (ov_1:List UInt8×Bool×Int×List Int×List Int×List (Int×List UInt8)) =>
 (m23 (false,ov.2.2.2.2.2.1,ov.2.2.2.2.2.2.1,ov.2.2.2.2.2.2.2.2.1,ov.2.2.2.2.2.2.2.2.2.1)).bind fun r=>bif PE.orM false (PE.andM true (PE.notM (eqsM
 ov_1.1 (strB r)))) then some (Sum.inl (false,ov_1.2.1,ov_1.2.2.1,ov_1.2.2.2.1,ov_1.2.2.2.2.1,ov.2.2.2.2.2.1,ov.2.2.2.2.2.2.1,ov_1.2.2.2.2.2,
 ov.2.2.2.2.2.2.2.2.1,ov.2.2.2.2.2.2.2.2.2.1)) else some (Sum.inr (ov_1.2.1,ov_1.2.2.1,ov_1.2.2.2.1,ov_1.2.2.2.2.1,ov.2.2.2.2.2.1,ov.2.2.2.2.2.2.1,
 ov_1.2.2.2.2.2,ov.2.2.2.2.2.2.2.2.1,ov.2.2.2.2.2.2.2.2.2.1)) else some (Sum.inr (ov.2.1,ov.2.2.1,ov.2.2.2.1,ov.2.2.2.2.1,ov.2.2.2.2.2.1,
 ov.2.2.2.2.2.2.1,ov.2.2.2.2.2.2.2.1,ov.2.2.2.2.2.2.2.2.1,ov.2.2.2.2.2.2.2.2.2.1)) else some (Sum.inl (false,ov.2.1,ov.2.2.1,ov.2.2.2.1,ov.2.2.2.2.1,
 ov.2.2.2.2.2.1,ov.2.2.2.2.2.2.1,ov.2.2.2.2.2.2.2.1,ov.2.2.2.2.2.2.2.2.1,ov.2.2.2.2.2.2.2.2.2.1)) else some (Sum.inl (false,ov.2.1,ov.2.2.1,ov.2.2.2.1,
 ov.2.2.2.2.1,ov.2.2.2.2.2.1,ov.2.2.2.2.2.2.1,ov.2.2.2.2.2.2.2.1,ov.2.2.2.2.2.2.2.2.1,ov.2.2.2.2.2.2.2.2.2.1))).bind fun o=>Sum.elim (fun (t:Bool ×
 Bool×Int×List Int×List Int×Bool×Int×List (Int×List UInt8)×List Int×List (Int×List UInt8))=>some (Sum.inl (t.1,t.2.1,t.2.2.1,
 t.2.2.2.1,t.2.2.2.2.1,t.2.2.2.2.2.1,t.2.2.2.2.2.2.1,t.2.2.2.2.2.2.2.1,t.2.2.2.2.2.2.2.2.1,t.2.2.2.2.2.2.2.2.2,ov.2.2.2.2.2.2.2.2.2.2.1,
 ov.2.2.2.2.2.2.2.2.2.2.2.1,ov.2.2.2.2.2.2.2.2.2.2.2.2.1,ov.2.2.2.2.2.2.2.2.2.2.2.2.2.1,ov.2.2.2.2.2.2.2.2.2.2.2.2.2.2.1,
 ov.2.2.2.2.2.2.2.2.2.2.2.2.2.2.2.1,ov.2.2.2.2.2.2.2.2.2.2.2.2.2.2.2.2.1,ov.2.2.2.2.2.2.2.2.2.2.2.2.2.2.2.2.2.1,ov.2.2.2.2.2.2.2.2.2.2.2.2.2.2.2.2.2.2)))
 (fun (t:Bool×Int×List Int×List Int×Bool×Int×List (Int×List UInt8)×List Int×List (Int×List UInt8))=>bif PE.notM
 ov.2.2.2.2.2.2.2.2.2.2.1 then (m19 (ov.2.2.2.2.2.2.2.2.2.2.1,ov.2.2.2.2.2.2.2.2.2.2.2.1,ov.2.2.2.2.2.2.2.2.2.2.2.2.1,ov.2.2.2.2.2.2.2.2.2.2.2.2.2.1,
 ov.2.2.2.2.2.2.2.2.2.2.2.2.2.2.2.2.2.2,false,t.1,t.2.1,t.2.2.1,t.2.2.2.1,t.2.2.2.2.2.2.1)).bind fun r_8=>(nonM ov.2.2.2.2.2.2.2.2.2.2.2.2.2.2.1).bind
 fun r_9=>((nonM ov.2.2.2.2.2.2.2.2.2.2.2.2.2.2.1).bind fun (x:Unit)=>some ()).bind fun r_10=>(m18 (r_8,ov.2.2.2.2.2.2.2.2.2.2.2.2.2.2.2.2.2.1)).bind
 fun r=>bif PE.notM (PE.notM r) then (m20 (false,ov.2.2.2.2.2.2.2.2.2.2.2.1,ov.2.2.2.2.2.2.2.2.2.2.2.2.1,ov.2.2.2.2.2.2.2.2.2.2.2.2.2.1,
 ov.2.2.2.2.2.2.2.2.2.2.2.2.2.2.2.2.2.2,false,t.1,t.2.1,t.2.2.1,t.2.2.2.1,t.2.2.2.2.2.2.1)).bind fun r=>(m21 (ov.2.2.2.2.2.2.2.2.2.2.2.2.2.2.1,
 ov.2.2.2.2.2.2.2.2.2.2.2.2.2.2.2.1,ov.2.2.2.2.2.2.2.2.2.2.2.2.2.2.2.2.1,false,t.2.2.2.2.1,t.2.2.2.2.2.1,t.2.2.2.2.2.2.2.1,t.2.2.2.2.2.2.2.2,
 ov.2.2.2.2.2.2.2.2.2.2.2.2.2.2.2.2.2.1)).bind fun r_11=>bif PE.andM true (PE.orM false (PE.notM (eqM r.1 r_11))) then some (Sum.inl (false,r.2.1,r.2.2.1,
 r.2.2.2.1,r.2.2.2.2.1,t.2.2.2.2.1,t.2.2.2.2.2.1,r.2.2.2.2.2,t.2.2.2.2.2.2.2.1,t.2.2.2.2.2.2.2.2,false,ov.2.2.2.2.2.2.2.2.2.2.2.1,
 ov.2.2.2.2.2.2.2.2.2.2.2.2.1,ov.2.2.2.2.2.2.2.2.2.2.2.2.2.1,false,ov.2.2.2.2.2.2.2.2.2.2.2.2.2.2.2.1,ov.2.2.2.2.2.2.2.2.2.2.2.2.2.2.2.2.1,
 ov.2.2.2.2.2.2.2.2.2.2.2.2.2.2.2.2.2.1,ov.2.2.2.2.2.2.2.2.2.2.2.2.2.2.2.2.2.2)) else some (Sum.inr (r.2.1,r.2.2.1,r.2.2.2.1,r.2.2.2.2.1,t.2.2.2.2.1,
 t.2.2.2.2.2.1,r.2.2.2.2.2,t.2.2.2.2.2.2.2.1,t.2.2.2.2.2.2.2.2,false,ov.2.2.2.2.2.2.2.2.2.2.2.1,ov.2.2.2.2.2.2.2.2.2.2.2.2.1,
 ov.2.2.2.2.2.2.2.2.2.2.2.2.2.1,false,ov.2.2.2.2.2.2.2.2.2.2.2.2.2.2.2.1,ov.2.2.2.2.2.2.2.2.2.2.2.2.2.2.2.2.1,ov.2.2.2.2.2.2.2.2.2.2.2.2.2.2.2.2.2.1,
 ov.2.2.2.2.2.2.2.2.2.2.2.2.2.2.2.2.2.2)) else some (Sum.inl (false,t.1,t.2.1,t.2.2.1,t.2.2.2.1,t.2.2.2.2.1,t.2.2.2.2.2.1,t.2.2.2.2.2.2.1,
 t.2.2.2.2.2.2.2.1,t.2.2.2.2.2.2.2.2,false,ov.2.2.2.2.2.2.2.2.2.2.2.1,ov.2.2.2.2.2.2.2.2.2.2.2.2.1,ov.2.2.2.2.2.2.2.2.2.2.2.2.2.1,
 ov.2.2.2.2.2.2.2.2.2.2.2.2.2.2.1,ov.2.2.2.2.2.2.2.2.2.2.2.2.2.2.2.1,ov.2.2.2.2.2.2.2.2.2.2.2.2.2.2.2.2.1,ov.2.2.2.2.2.2.2.2.2.2.2.2.2.2.2.2.2.1,
 ov.2.2.2.2.2.2.2.2.2.2.2.2.2.2.2.2.2.2)) else some (Sum.inr (t.1,t.2.1,t.2.2.1,t.2.2.2.1,t.2.2.2.2.1,t.2.2.2.2.2.1,t.2.2.2.2.2.2.1,t.2.2.2.2.2.2.2.1,
 t.2.2.2.2.2.2.2.2,ov.2.2.2.2.2.2.2.2.2.2.1,ov.2.2.2.2.2.2.2.2.2.2.2.1,ov.2.2.2.2.2.2.2.2.2.2.2.2.1,ov.2.2.2.2.2.2.2.2.2.2.2.2.2.1,
 ov.2.2.2.2.2.2.2.2.2.2.2.2.2.2.1,ov.2.2.2.2.2.2.2.2.2.2.2.2.2.2.2.1,ov.2.2.2.2.2.2.2.2.2.2.2.2.2.2.2.2.1,ov.2.2.2.2.2.2.2.2.2.2.2.2.2.2.2.2.2.1,
 ov.2.2.2.2.2.2.2.2.2.2.2.2.2.2.2.2.2.2))) o).bind fun o=>Sum.elim (fun (t:Bool×Bool×Int×List Int×List Int×Bool×Int×List (Int×List UInt8) ×
 List Int×List (Int×List UInt8)×Bool×List UInt8×Int×Bool×Bool×Int×Bool×List (List UInt8)×List (List UInt8))=>some (Sum.inr (Sum.inr
 (t.1,t.2.1,t.2.2.1,t.2.2.2.1,t.2.2.2.2.1,t.2.2.2.2.2.1,t.2.2.2.2.2.2.1,t.2.2.2.2.2.2.2.1,t.2.2.2.2.2.2.2.2.1,t.2.2.2.2.2.2.2.2.2.1,
 t.2.2.2.2.2.2.2.2.2.2.1,t.2.2.2.2.2.2.2.2.2.2.2.1,t.2.2.2.2.2.2.2.2.2.2.2.2.1,t.2.2.2.2.2.2.2.2.2.2.2.2.2.1,t.2.2.2.2.2.2.2.2.2.2.2.2.2.2.1,
 t.2.2.2.2.2.2.2.2.2.2.2.2.2.2.2.1,t.2.2.2.2.2.2.2.2.2.2.2.2.2.2.2.2.1,t.2.2.2.2.2.2.2.2.2.2.2.2.2.2.2.2.2.1,t.2.2.2.2.2.2.2.2.2.2.2.2.2.2.2.2.2.2)))) (fun
 (t:Bool×Int×List Int×List Int×Bool×Int×List (Int×List UInt8)×List Int×List (Int×List UInt8)×Bool×List UInt8×Int×Bool×Bool ×
 Int×Bool×List (List UInt8)×List (List UInt8))=>some (Sum.inl (wrap .i64 (s.1+1),t.1,t.2.1,t.2.2.1,t.2.2.2.1,t.2.2.2.2.1,t.2.2.2.2.2.1,
 t.2.2.2.2.2.2.1,t.2.2.2.2.2.2.2.1,t.2.2.2.2.2.2.2.2.1,t.2.2.2.2.2.2.2.2.2.1,t.2.2.2.2.2.2.2.2.2.2.1,t.2.2.2.2.2.2.2.2.2.2.2.1,
 t.2.2.2.2.2.2.2.2.2.2.2.2.1,t.2.2.2.2.2.2.2.2.2.2.2.2.2.1,t.2.2.2.2.2.2.2.2.2.2.2.2.2.2.1,t.2.2.2.2.2.2.2.2.2.2.2.2.2.2.2.1,
 t.2.2.2.2.2.2.2.2.2.2.2.2.2.2.2.2.1,t.2.2.2.2.2.2.2.2.2.2.2.2.2.2.2.2.2))) o else some (Sum.inr (Sum.inl (s.2.1,s.2.2.1,s.2.2.2.1,s.2.2.2.2.1,
 s.2.2.2.2.2.1,s.2.2.2.2.2.2.1,s.2.2.2.2.2.2.2.1,s.2.2.2.2.2.2.2.2.1,s.2.2.2.2.2.2.2.2.2.1,s.2.2.2.2.2.2.2.2.2.2.1,s.2.2.2.2.2.2.2.2.2.2.2.1,
 s.2.2.2.2.2.2.2.2.2.2.2.2.1,s.2.2.2.2.2.2.2.2.2.2.2.2.2.1,s.2.2.2.2.2.2.2.2.2.2.2.2.2.2.1,s.2.2.2.2.2.2.2.2.2.2.2.2.2.2.2.1,
 s.2.2.2.2.2.2.2.2.2.2.2.2.2.2.2.2.1,s.2.2.2.2.2.2.2.2.2.2.2.2.2.2.2.2.2.1,s.2.2.2.2.2.2.2.2.2.2.2.2.2.2.2.2.2.2)))) (0,r_5.2.1,r_5.2.2.1,r_5.2.2.2.1,
 r_5.2.2.2.2.1,r_6.2.1,r_6.2.2.1,r_5.2.2.2.2.2.2.2.2.2.2,r_6.2.2.2.2.2.2.2.1,r_6.2.2.2.2.2.2.2.2,r_5.2.2.2.2.2.1,r_5.2.2.2.2.2.2.1,r_5.2.2.2.2.2.2.2.1,
 r_5.2.2.2.2.2.2.2.2.1,r_6.2.2.2.1,r_6.2.2.2.2.1,r_6.2.2.2.2.2.1,r_6.2.2.2.2.2.2.1,r_5.2.2.2.2.2.2.2.2.2.1)).bind fun o=>Sum.elim (fun (t:Bool×Int ×
 List Int×List Int×Bool×Int×List (Int×List UInt8)×List Int×List (Int×List UInt8)×Bool×List UInt8×Int×Bool×Bool×Int×Bool×List
 (List UInt8)×List (List UInt8))=>some r) (fun (t:Bool×Bool×Int×List Int×List Int×Bool×Int×List (Int×List UInt8)×List Int×List (Int ×
 List UInt8)×Bool×List UInt8×Int×Bool×Bool×Int×Bool×List (List UInt8)×List (List UInt8))=>some t.1) o
theorem c7:SpecOK Tryz.prog 7 ⟨as7,rs7,m7⟩ :=
 fc tabs32OK [] an7 Tryz.f7 fun x=>by kernel_rfl
def tabs7:Tabs:=Tabs.add tabs32 7 ⟨as7,rs7,m7⟩
theorem tabs7OK:TabOK Tryz.prog tabs7:=TabOK.add tabs32OK c7 Tryz.call7
end
end Go.Proofs.YtobfnefajpiakaaGreatDoor


namespace Go.PE
variable [ea:Go.Abs.EA]
def Le {α:Type} (a b:Option α):Prop:=∀ r,a=some r→b=some r
def nilF {α β:Type} (xs:List α) (a b:Option β):Option β:=match xs with
 | []=>none
 | _::_=>b
attribute [irreducible] Le
variable [ea:Go.Abs.EA]
open Go Go.Abs
def InR:(t:Ty)→t.den→Prop
 | .int k,x=>k.has x
 | .bool,_=>True
 | .str,x=>List.length x≤maxLen
 | .list t,xs=>List.length xs≤maxLen∧∀ (i:Nat) (x:t.den),xs[i]? = some x→InR t x
 | .one t,x=>InR t x
 | .pair a b,x=>InR a x.1∧InR b x.2
def OkT:(l:List Ty)→Tup (l.map .d)→Prop
 | [],_=>True
 | [t],x=>InR t x
 | t::u::r,x=>InR t x.1∧OkT (u::r) x.2
section
variable {S:Cells} {w:World} {η:Eta}
theorem Rep.ok:∀ {t:Ty} {x:t.den} {cs:List Value},Rep S w t x cs→InR t x
 | .int _,_,_,h=>h.2
 | .bool,_,_,_=>trivial
 | .str,_,_,h=>h.2
 | .list t,xs,_,h=>by
  obtain ⟨base,cap,rfl,h1,h2,h3⟩:=h
  refine ⟨Nat.le_trans h1 h2,fun i x hx=>?_⟩
  rcases h3 with h3 | ⟨b,off,_,h3⟩
  ·have:xs=[]:=List.length_eq_zero_iff.1 h3
   rw [this] at hx
   cases hx
  ·obtain ⟨es,h4,_⟩:=h3 i x hx
   exact Rep.ok h4
 | .one t,x,cs,h=>by
  have h':Rep S w t x cs:=h
  exact Rep.ok (t:=t) h'
 | .pair a b,x,cs,h=>by
  obtain ⟨c1,c2,rfl,h1,h2⟩:=h
  exact ⟨Rep.ok h1,Rep.ok h2⟩
theorem cv_ok:∀ {t:Ty} {x:t.den} {vs:List Value},All2 (CM S w η) (t.cv x) vs→InR t x
 | .int _,_,_,.cons h .nil=>let ⟨_,a,_⟩:=h.2;Rep.ok a
 | .bool,_,_,_=>trivial
 | .str,_,_,.cons h .nil=>let ⟨_,a,_⟩:=h.2;Rep.ok a
 | .list _,_,_,.cons h .nil=>let ⟨_,a,_⟩:=h.2;Rep.ok a
 | .one t,x,vs,h=>by
  have h':All2 (CM S w η) (t.cv x) vs:=h
  exact cv_ok (t:=t) h'
 | .pair a b,x,vs,h=>by
  have h':All2 (CM S w η) (a.cv x.1++b.cv x.2) vs:=h
  obtain ⟨b1,b2,rfl,h1,h2⟩:=All2.split h'
  exact ⟨cv_ok h1,cv_ok h2⟩
theorem rv_ok {t:Ty} {x:t.den} {v:Value} (h:RM S w η (t.rv x) v):InR t x:=by
 unfold Ty.rv at h
 split at h
 ·obtain ⟨vs,_,h2⟩:=h
  exact cv_ok h2
 ·obtain ⟨_,cs,h2,_⟩:=h
  exact Rep.ok h2
theorem rvs_ok:∀ {l:List Ty} {x:Tup (l.map .d)} {vs:List Value},All2 (RM S w η) (rvs l x) vs→OkT l x
 | [],_,_,_=>trivial
 | [t],x,_,.cons h .nil=>rv_ok h
 | t::u::r,x,_,h=>by
  have h':All2 (RM S w η) (t.rv x.1::rvs (u::r) x.2) _:=h
  cases h' with
  | cons h1 h2=>exact ⟨rv_ok h1,rvs_ok (l:=u::r) h2⟩
end
theorem law_of_ok {args:List Ty} {m:Tup (args.map .d)→Option Bool} (h:∀ x,OkT args x→m x=some true) :
  ∀ (S:Cells) (w:World) (η:Eta) (vs:List Value) x,All2 (RM S w η) (rvs args x) vs→m x=some true:=fun _ _ _ _ x hx=>h x (rvs_ok hx)

theorem wrap_in {n:Int} (h1:-9223372036854775808≤n) (h2:n≤9223372036854775807):IntKind.wrap .i64 n=n:=Go.IntWalk.i64_in n ⟨h1,h2⟩
theorem idxM_nat {α:Type} (xs:List α) (i:Nat):idxM xs (i:Int)=xs[i]? := by
 unfold idxM
 rw [dT (by omega:(0:Int)≤i)]
 simp
theorem idxM_lt {α:Type} {xs:List α} {i:Nat} (h:i<xs.length):idxM xs (i:Int)=some xs[i]:=by
 rw [idxM_nat,gE h]
theorem idxM_of {α:Type} {xs:List α} {i:Int} (h0:0≤i) (h:i<xs.length):idxM xs i=some (xs[i.toNat]'(by omega)):=by
 unfold idxM
 rw [dT h0]
 exact gE _
theorem chkM_of {i n:Int} (h0:0≤i) (h:i<n):chkM i n=some ():=by
 unfold chkM
 rw [dT h0,dT h]
theorem appM_of {α:Type} {b:Nat} {xs ys:List α} (h:(xs.length+ys.length)*b≤140737488355328):appM b xs ys=some (xs++ys):=by
 unfold appM
 rw [dT h]
theorem mkM_of {α:Type} {n c:Int} {b:Nat} {d:α} (h0:0≤n) (h:n≤c) (hb:c*b≤140737488355328):mkM n c b d=some (List.replicate n.toNat d):=by
 unfold mkM
 rw [dT h0,dT h,dT hb]
theorem setM_of {α:Type} {xs:List α} {i:Int} {f:α→Option α} {y:α} (h0:0≤i) (h:i<xs.length) (hy:f (xs[i.toNat]'(by omega))=some y):setM xs i f=some (xs.set i.toNat y):=by
 unfold setM
 rw [idxM_of h0 h]
 simp only [hy]
theorem sliceM_of {α:Type} {xs:List α} {lo hi:Int} (h0:0≤lo) (h:lo≤hi) (h2:hi≤xs.length):sliceM xs lo hi=some ((xs.take hi.toNat).drop lo.toNat):=by
 unfold sliceM
 rw [dT h0,dT h,dT h2]
theorem sameM_self (i:Int):sameM i i=some ():=by
 unfold sameM
 rw [dT rfl]
theorem loopM_inv {σ β:Type} {body:σ→Option (σ⊕β)} (P:Nat→σ→Prop) (Q:β→Prop) (n:Nat)
  (h:∀ k s,k≤n→P k s→(∃ s',k<n∧body s=some (.inl s')∧P (k+1) s')∨∃ r,body s=some (.inr r)∧Q r) :
  ∀ (m k:Nat) (s:σ),n-k=m→k≤n→P k s→∃ r,loopM body s=some r∧Q r:=by
 intro m
 induction m with
 | zero =>
  intro k s hm hk hP
  rcases h k s hk hP with ⟨s',hlt,_⟩ | ⟨r,h1,h2⟩
  ·omega
  ·exact ⟨r,by rw [loopM_eq,h1];rfl,h2⟩
 | succ m ih =>
  intro k s hm hk hP
  rcases h k s hk hP with ⟨s',hlt,h1,h2⟩ | ⟨r,h1,h2⟩
  ·obtain ⟨r,h3,h4⟩:=ih (k+1) s' (by omega) (by omega) h2
   exact ⟨r,by rw [loopM_eq,h1];exact h3,h4⟩
  ·exact ⟨r,by rw [loopM_eq,h1];rfl,h2⟩
theorem loopM_from {σ β:Type} {body:σ→Option (σ⊕β)} (P:Nat→σ→Prop) (Q:β→Prop) (n:Nat) {s:σ} (h0:P 0 s)
  (h:∀ k s,k≤n→P k s→(∃ s',k<n∧body s=some (.inl s')∧P (k+1) s')∨∃ r,body s=some (.inr r)∧Q r):∃ r,loopM body s=some r∧Q r :=
 loopM_inv P Q n h n 0 s (by omega) (by omega) h0
theorem loopM_fn {σ β:Type} {body:σ→Option (σ⊕β)} (g:Nat→σ) (n:Nat) {r:β} (h:∀ k,k<n→body (g k)=some (.inl (g (k+1)))) (he:body (g n)=some (.inr r)):loopM body (g 0)=some r:=by
 obtain ⟨r',h1,h2⟩:=loopM_from (body:=body) (fun k s=>s=g k) (fun x=>x=r) n (s:=g 0) rfl fun k s hk hs=>by
  subst hs
  by_cases hlt:k<n
  ·exact .inl ⟨_,hlt,h k hlt,rfl⟩
  ·have:k=n:=by omega
   subst this
   exact .inr ⟨r,he,rfl⟩
 rw [h1,h2]
theorem find_loop {α:Type} {xs:List α} (p:α→Bool) {body:Int→Option (Int⊕(Unit⊕Int))}
  (hb:∀ k (hk:k<xs.length),body (k:Int)=some (bif p xs[k] then .inr (.inr (k:Int)) else .inl ((k:Int)+1))) (he:body (xs.length:Int)=some (.inr (.inl ()))) :
  ∃ o,loopM body 0=some o∧((o=.inl ()∧∀ k (hk:k<xs.length),p xs[k]=false)∨∃ k,∃ hk:k<xs.length,o=.inr (k:Int)∧p xs[k]=true∧∀ j (hj:j<k),p (xs[j]'(by omega))=false):=by
 refine loopM_from (fun k s=>s=(k:Int)∧∀ j (hj:j<xs.length),j<k→p xs[j]=false) _ xs.length (s:=0) ⟨rfl,fun j _ hj=>by omega⟩ fun k s hk ⟨hs,hP⟩=>?_
 subst hs
 by_cases hlt:k<xs.length
 ·cases hp:p xs[k] with
  | true=>exact .inr ⟨.inr (k:Int),by rw [hb k hlt,hp];rfl,.inr ⟨k,hlt,rfl,hp,fun j hj=>hP j (by omega) hj⟩⟩
  | false =>
   refine .inl ⟨((k+1:Nat):Int),hlt,by rw [hb k hlt,hp];rfl,rfl,fun j hj hjk=>?_⟩
   by_cases e:j=k
   ·subst e;exact hp
   ·exact hP j hj (by omega)
 ·have:k=xs.length:=by omega
  subst this
  exact .inr ⟨_,he,.inl ⟨rfl,fun j hj=>hP j hj hj⟩⟩
variable [ea:Go.Abs.EA]
open Go Go.Abs
def row {α:Type} (m:Nat) (g:Nat→α):List α:=(List.range m).map g
def upd {α:Type} (d:Nat→Nat→α) (i j:Nat) (y:α):Nat→Nat→α:=fun a b=>if a=i∧b=j then y else d a b
section
variable {α:Type}
end
theorem bind_of {α β:Type} {o:Option α} {x:α} {f:α→Option β} {r:Option β} (h:o=some x) (h2:f x=r):Option.bind o f=r:=by
 rw [h];exact h2
variable [ea:Go.Abs.EA]
open Go Go.Abs
def Ans {α:Type} (o:Option α) (Q:α→Prop):Prop:=∃ r,o=some r∧Q r
theorem Ans.is {α:Type} {o:Option α} {r:α} (h:Ans o (fun x=>x=r)):o=some r:=by
 obtain ⟨x,h1,h2⟩:=h
 rw [h1,h2]
theorem Ans.some {α:Type} {r:α} {Q:α→Prop} (hQ:Q r):Ans (some r) Q:=⟨r,rfl,hQ⟩
theorem Ans.bind {α β:Type} {o:Option α} {f:α→Option β} {P:α→Prop} {Q:β→Prop} (h:Ans o P) (hf:∀ x,P x→Ans (f x) Q):Ans (Option.bind o f) Q:=by
 obtain ⟨x,h1,h2⟩:=h
 rw [h1]
 exact hf x h2
def Nxt {σ β:Type} (P:σ→Prop) (Q:β→Prop):σ⊕β→Prop
 | .inl s=>P s
 | .inr r=>Q r
theorem Ans.loop {σ β:Type} {body:σ→Option (σ⊕β)} {s:σ} {Q:β→Prop} (P:Nat→σ→Prop) (n:Nat) (h0:P 0 s)
  (h:∀ k s,k≤n→P k s→Ans (body s) (Nxt (fun s'=>k<n∧P (k+1) s') Q)):Ans (loopM body s) Q:=by
 refine loopM_from P Q n h0 fun k s hk hP=>?_
 obtain ⟨o,h1,h2⟩:=h k s hk hP
 cases o with
 | inl s'=>exact .inl ⟨s',h2.1,h1,h2.2⟩
 | inr r=>exact .inr ⟨r,h1,h2⟩
theorem ltI {a b:Int} (h:a<b):ltM a b=true:=dT h
theorem geI {a b:Int} (h:b≤a):ltM a b=false:=dF (by omega)
theorem leI {a b:Int} (h:a≤b):leM a b=true:=dT h
theorem gtI {a b:Int} (h:b<a):leM a b=false:=dF (by omega)
theorem eqI {a b:Int} (h:a=b):eqM a b=true:=dT h
theorem neI {a b:Int} (h:a≠b):eqM a b=false:=dF h
theorem notT:notM true=false:=rfl
theorem notF:notM false=true:=rfl
theorem orT (b:Bool):orM true b=true:=rfl
theorem orF (b:Bool):orM false b=b:=rfl
theorem andT (b:Bool):andM true b=b:=rfl
theorem andF (b:Bool):andM false b=false:=rfl
def pk (c n:Int):Int:=(if c<0 then -(c+1) else c) % n
theorem pk_lo {c n:Int} (h:0<n):0≤pk c n:=Int.emod_nonneg _ (by omega)
theorem pk_hi {c n:Int} (h:0<n):pk c n<n:=Int.emod_lt_of_pos _ h
theorem remM_of {a b:Int} (ha:0≤a) (hb:0<b):remM a b=some (a % b):=by
 unfold remM
 rw [dF (by omega)]
 show some (a.tmod b)=some (a % b)
 rw [Int.tmod_eq_emod_of_nonneg ha]
theorem divM_pos {k:IntKind} {a b:Int} (hb:b≠0):divM k a b=some (k.wrap (a.tdiv b)):=by
 unfold divM
 rw [dF hb]
theorem pk_text {c n:Int} (hc:IntKind.i64.has c) (hn:0<n) :
  Option.bind (bif ltM c (0:Int) then some (IntKind.wrap .i64 (negM (IntKind.wrap .i64 (c+(1:Int))))) else some c) (fun (o:Int)=>Option.bind (remM o n) fun (r:Int)=>some r)=some (pk c n):=by
 have hc':-9223372036854775808≤c∧c≤9223372036854775807:=hc
 unfold pk
 by_cases h:c<0
 ·rw [ltI h,cT,oB,if_pos h,wrap_in (n:=c+1) (by omega) (by omega)]
  unfold negM
  rw [wrap_in (by omega) (by omega),remM_of (by omega) hn]
  rfl
 ·rw [geI (by omega),cF,oB,if_neg h,remM_of (by omega) hn]
  rfl
end Go.PE
namespace Go.Ar
abbrev Bs:=List UInt8
theorem u8 {n:Nat} (h:n<256):(UInt8.ofNat n).toNat=n:=by rw [UInt8.toNat_ofNat'];omega
theorem u8eq {a b:UInt8} (h:a.toNat=b.toNat):a=b:=UInt8.toNat_inj.1 h
theorem u8lt (b:UInt8):b.toNat<256:=b.toNat_lt
def grp (z:Nat):Bs:=if z<128 then [UInt8.ofNat z] else UInt8.ofNat (z % 128+128)::grp (z / 128)
termination_by z
theorem grp_lt {z:Nat} (h:z<128):grp z=[UInt8.ofNat z]:=by unfold grp;rw [if_pos h]
theorem grp_ge {z:Nat} (h:128≤z):grp z=UInt8.ofNat (z % 128+128)::grp (z / 128):=by rw [grp,if_neg (by omega)]
theorem grp_pre:∀ (a:Nat) {b:Nat} {x y:Bs},grp a++x=grp b++y→a=b∧x=y:=by
 intro a
 induction a using Nat.strongRecOn with
 | _ a ih =>
  intro b x y h
  by_cases ha:a<128<;>by_cases hb:b<128
  ·rw [grp_lt ha,grp_lt hb] at h
   simp only [List.cons_append,List.nil_append,List.cons.injEq] at h
   have e:=congrArg UInt8.toNat h.1
   rw [u8 (by omega),u8 (by omega)] at e
   exact ⟨e,h.2⟩
  ·rw [grp_lt ha,grp_ge (by omega)] at h
   simp only [List.cons_append,List.nil_append,List.cons.injEq] at h
   have e:=congrArg UInt8.toNat h.1
   rw [u8 (by omega),u8 (by omega)] at e
   omega
  ·rw [grp_ge (by omega),grp_lt hb] at h
   simp only [List.cons_append,List.nil_append,List.cons.injEq] at h
   have e:=congrArg UInt8.toNat h.1
   rw [u8 (by omega),u8 (by omega)] at e
   omega
  ·rw [grp_ge (z:=a) (by omega),grp_ge (z:=b) (by omega)] at h
   simp only [List.cons_append,List.cons.injEq] at h
   have e:=congrArg UInt8.toNat h.1
   rw [u8 (by omega),u8 (by omega)] at e
   obtain ⟨e2,e3⟩:=ih (a / 128) (by omega) h.2
   exact ⟨by omega,e3⟩
theorem grp_len:∀ (k:Nat) {z:Nat},z<128 ^ (k+1)→(grp z).length≤k+1
 | 0,z,h=>by rw [grp_lt (by simpa using h)];simp
 | k+1,z,h=>by
  by_cases hz:z<128
  ·rw [grp_lt hz];simp
  ·rw [grp_ge (by omega)]
   have:=grp_len k (z:=z / 128) (by rw [Nat.div_lt_iff_lt_mul (by omega),← Nat.pow_succ];exact h)
   simp only [List.length_cons];omega
def zz (n:Int):Nat:=if n<0 then (-2*n-1).toNat else (2*n).toNat
def uz (z:Nat):Int:=if z % 2=0 then (z / 2:Nat) else -((z / 2:Nat):Int)-1
theorem uz_zz (n:Int):uz (zz n)=n:=by unfold uz zz;split<;>split<;>omega
theorem zz_uz (z:Nat):zz (uz z)=z:=by unfold uz zz;split<;>split<;>omega
theorem zz_inj {a b:Int} (h:zz a=zz b):a=b:=by rw [← uz_zz a,h,uz_zz]
abbrev inR (n:Int):Prop:=-4611686018427387903≤n∧n≤4611686018427387903
theorem zz_lt {n:Int} (h:inR n):zz n<9223372036854775807:=by unfold inR at h;unfold zz;split<;>omega
def pI (n:Int):Bs:=grp (zz n)
theorem pI_pre {a b:Int} {x y:Bs} (h:pI a++x=pI b++y):a=b∧x=y:=by
 obtain ⟨e,f⟩:=grp_pre _ h
 exact ⟨zz_inj e,f⟩
theorem pI_len {n:Int} (h:inR n):(pI n).length≤9:=grp_len 8 (Nat.lt_trans (zz_lt h) (by decide))
def pS (s:Bs):Bs:=pI s.length++s
theorem pS_pre {a b x y:Bs} (h:pS a++x=pS b++y):a=b∧x=y:=by
 unfold pS at h
 rw [aA,aA] at h
 obtain ⟨e,f⟩:=pI_pre h
 exact List.append_inj f (by omega)
def IsI (s:Bs) (n:Int) (k:Nat):Prop:=inR n∧k=(pI n).length∧pI n <+: s
theorem IsI.uniq {s:Bs} {n m:Int} {j k:Nat} (h:IsI s n j) (h':IsI s m k):n=m∧j=k:=by
 obtain ⟨_,rfl,x,hx⟩:=h
 obtain ⟨_,rfl,y,hy⟩:=h'
 obtain ⟨e,_⟩:=pI_pre (hx.trans hy.symm)
 subst e
 exact ⟨rfl,rfl⟩
def IsS (s t:Bs) (k:Nat):Prop:=t.length≤65536∧k=(pS t).length∧pS t <+: s
theorem IsS.uniq {s t u:Bs} {j k:Nat} (h:IsS s t j) (h':IsS s u k):t=u∧j=k:=by
 obtain ⟨_,rfl,x,hx⟩:=h
 obtain ⟨_,rfl,y,hy⟩:=h'
 obtain ⟨e,_⟩:=pS_pre (hx.trans hy.symm)
 subst e
 exact ⟨rfl,rfl⟩
def mW (n:Nat):Nat:=n % 4294967296
def xW (a b:Nat):Nat:=mW a ^^^ mW b
def aW (a b:Nat):Nat:=mW a &&& mW b
def oW (a b:Nat):Nat:=mW a ||| mW b
def shl (x n:Nat):Nat:=mW (x*2 ^ n)
def shr (x n:Nat):Nat:=x / 2 ^ n
def rot (x n:Nat):Nat:=oW (shr x n) (shl x (32-n))
def kSha:List Nat:=[
 0x428a2f98,0x71374491,0xb5c0fbcf,0xe9b5dba5,0x3956c25b,0x59f111f1,0x923f82a4,0xab1c5ed5,
 0xd807aa98,0x12835b01,0x243185be,0x550c7dc3,0x72be5d74,0x80deb1fe,0x9bdc06a7,0xc19bf174,
 0xe49b69c1,0xefbe4786,0x0fc19dc6,0x240ca1cc,0x2de92c6f,0x4a7484aa,0x5cb0a9dc,0x76f988da,
 0x983e5152,0xa831c66d,0xb00327c8,0xbf597fc7,0xc6e00bf3,0xd5a79147,0x06ca6351,0x14292967,
 0x27b70a85,0x2e1b2138,0x4d2c6dfc,0x53380d13,0x650a7354,0x766a0abb,0x81c2c92e,0x92722c85,
 0xa2bfe8a1,0xa81a664b,0xc24b8b70,0xc76c51a3,0xd192e819,0xd6990624,0xf40e3585,0x106aa070,
 0x19a4c116,0x1e376c08,0x2748774c,0x34b0bcb5,0x391c0cb3,0x4ed8aa4a,0x5b9cca4f,0x682e6ff3,
 0x748f82ee,0x78a5636f,0x84c87814,0x8cc70208,0x90befffa,0xa4506ceb,0xbef9a3f7,0xc67178f2]
def hSha:List Nat:=[0x6a09e667,0xbb67ae85,0x3c6ef372,0xa54ff53a,0x510e527f,0x9b05688c,0x1f83d9ab,0x5be0cd19]
def w4 (b:List Nat) (i:Nat):Nat:=oW (oW (oW (shl (mW (b.getD (4*i) 0)) 24) (shl (mW (b.getD (4*i+1) 0)) 16)) (shl (mW (b.getD (4*i+2) 0)) 8)) (mW (b.getD (4*i+3) 0))
def nextW (a b c d:Nat):Nat:=mW (mW (mW (a+xW (xW (rot b 7) (rot b 18)) (shr b 3))+c)+xW (xW (rot d 17) (rot d 19)) (shr d 10))
def wNext (w:List Nat):Nat:=nextW (w.getD (w.length-16) 0) (w.getD (w.length-15) 0) (w.getD (w.length-7) 0) (w.getD (w.length-2) 0)
def wMore:Nat→List Nat→List Nat
 | 0,w=>w
 | k+1,w=>wMore k (w++[wNext w])
def wAll (b:List Nat):List Nat:=wMore 48 ((List.range 16).map (w4 b))
def tW (e f g h k w:Nat):Nat:=mW (mW (mW (mW (h+xW (xW (rot e 6) (rot e 11)) (rot e 25))+xW (aW e f) (aW (xW 4294967295 e) g))+k)+w)
def uW (a b c:Nat):Nat:=mW (xW (xW (rot a 2) (rot a 13)) (rot a 22)+xW (xW (aW a b) (aW a c)) (aW b c))
def rnd (v:List Nat) (kw:Nat×Nat):List Nat:=match v with
 | [a,b,c,d,e,f,g,h]=>[mW (tW e f g h kw.1 kw.2+uW a b c),a,b,c,mW (d+tW e f g h kw.1 kw.2),e,f,g]
 | _=>v
def blk (h:List Nat) (b:List Nat):List Nat:=List.zipWith (fun x y=>mW (x+y)) h ((kSha.zip (wAll b)).foldl rnd h)
def blks:Nat→List Nat→List Nat→List Nat
 | 0,h,_=>h
 | k+1,h,b=>blks k (blk h (b.take 64)) (b.drop 64)
def nZ (n:Nat):Nat:=(119-n % 64) % 64
def pad (b:List Nat):List Nat:=b++128::(List.replicate (nZ b.length) 0++(List.range 8).map fun i=>shr (8*b.length) (8*(7-i)) % 256)
def wBytes (h:List Nat):Bs:=h.flatMap fun x=>[UInt8.ofNat (shr x 24),UInt8.ofNat (shr x 16),UInt8.ofNat (shr x 8),UInt8.ofNat x]
def sha (s:Bs):Bs:=wBytes (blks ((pad (s.map UInt8.toNat)).length / 64) hSha (pad (s.map UInt8.toNat)))
theorem rnd_len {v:List Nat} (kw:Nat×Nat) (h:v.length=8):(rnd v kw).length=8:=by
 unfold rnd;split
 ·rfl
 ·exact h
theorem rnds_len:∀ (l:List (Nat×Nat)) (v:List Nat),v.length=8→(l.foldl rnd v).length=8
 | [],_,h=>h
 | x::l,v,h=>rnds_len l (rnd v x) (rnd_len x h)
theorem blk_len {h b:List Nat} (hh:h.length=8):(blk h b).length=8:=by
 unfold blk;rw [List.length_zipWith,rnds_len _ _ hh,hh];rfl
theorem blks_len:∀ (k:Nat) {h b:List Nat},h.length=8→(blks k h b).length=8
 | 0,_,_,h=>h
 | k+1,_,_,h=>blks_len k (blk_len h)
theorem sha_len (s:Bs):(sha s).length=32:=by
 have:=blks_len ((pad (s.map UInt8.toNat)).length / 64) (h:=hSha) (b:=pad (s.map UInt8.toNat)) rfl
 unfold sha wBytes
 generalize blks _ _ _=l at this
 match l,this with
 | [a,b,c,d,e,f,g,h],_=>rfl
def chain (h s:Bs):Bs:=sha (2::(h++s))
def gv:Bs→Nat
 | []=>0
 | b::l=>b.toNat % 128+128*gv l
theorem gv_snoc:∀ (l:Bs) (b:UInt8),gv (l++[b])=gv l+b.toNat % 128*128 ^ l.length
 | [],b=>by simp [gv]
 | a::l,b=>by
  simp only [List.cons_append,gv,gv_snoc l b,List.length_cons,Nat.pow_succ]
  rw [Nat.mul_add,← Nat.add_assoc,Nat.mul_comm (128 ^ l.length),Nat.mul_left_comm]
theorem gv_lt:∀ (l:Bs),gv l<128 ^ l.length
 | []=>by simp [gv]
 | b::l=>by
  have:=gv_lt l
  simp only [gv,List.length_cons,Nat.pow_succ];omega
theorem gv_grp (z:Nat):gv (grp z)=z:=by
 induction z using Nat.strongRecOn with
 | _ z ih =>
  by_cases h:z<128
  ·rw [grp_lt h];simp only [gv];rw [u8 (by omega)];omega
  ·rw [grp_ge (by omega)]
   simp only [gv]
   rw [ih _ (by omega),u8 (by omega)];omega
def Sh (l:Bs) (c:Bs) (b:UInt8):Prop:=l=c++[b]∧(∀ x∈c,128≤x.toNat)∧b.toNat<128
theorem grp_sh (z:Nat):∃ c b,Sh (grp z) c b∧(c=[]∨b.toNat≠0):=by
 induction z using Nat.strongRecOn with
 | _ z ih =>
  by_cases h:z<128
  ·exact ⟨[],UInt8.ofNat z,⟨grp_lt h,fun x hx=>(by simp at hx),by rw [u8 (by omega)];exact h⟩,.inl rfl⟩
  ·obtain ⟨c,b,⟨h1,h2,h3⟩,h4⟩:=ih (z / 128) (by omega)
   refine ⟨UInt8.ofNat (z % 128+128)::c,b,⟨by rw [grp_ge (by omega),h1];rfl,fun x hx=>?_,h3⟩,.inr ?_⟩
   ·rcases List.mem_cons.1 hx with q | q
    ·rw [q,u8 (by omega)];omega
    ·exact h2 x q
   ·rcases h4 with rfl | h4
    ·intro e
     have e1:gv (grp (z / 128))=z / 128:=gv_grp _
     rw [h1] at e1
     simp only [List.nil_append,gv,e] at e1
     omega
    ·exact h4
theorem sh_grp:∀ {c:Bs} {b:UInt8} {l:Bs},Sh l c b→(c=[]∨b.toNat≠0)→grp (gv l)=l
 | [],b,l,⟨h1,h2,h3⟩,_=>by
  subst h1
  simp only [List.nil_append,gv]
  rw [grp_lt (by omega)]
  congr 1
  apply u8eq;rw [u8 (by omega)];omega
 | x::c,b,l,⟨h1,h2,h3⟩,h4=>by
  have hb:b.toNat≠0:=h4.resolve_left (by simp)
  subst h1
  have hx:=h2 x (by simp)
  have hx2:=u8lt x
  have ih:=sh_grp (c:=c) (b:=b) ⟨rfl,fun y hy=>h2 y (by simp [hy]),h3⟩ (.inr hb)
  have hpos:0<gv (c++[b]):=by
   rw [gv_snoc]
   have:0<128 ^ c.length:=Nat.pow_pos (by omega)
   have:0<b.toNat % 128*128 ^ c.length:=Nat.mul_pos (by omega) this
   omega
  simp only [List.cons_append,gv]
  rw [grp_ge (by omega)]
  have e1:(x.toNat % 128+128*gv (c++[b])) / 128=gv (c++[b]):=by omega
  have e2:(x.toNat % 128+128*gv (c++[b])) % 128=x.toNat % 128:=by omega
  rw [e1,e2,ih]
  congr 1
  apply u8eq;rw [u8 (by omega)];omega
theorem sh_pre:∀ {c c':Bs} {b b':UInt8} {l l' x y:Bs},Sh l c b→Sh l' c' b'→l++x=l'++y→l=l'
 | [],[],b,b',l,l',x,y,⟨h1,_,h3⟩,⟨g1,_,g3⟩,e=>by
  subst h1;subst g1
  simp at e
  rw [e.1]
 | [],d::c',b,b',l,l',x,y,⟨h1,_,h3⟩,⟨g1,g2,g3⟩,e=>by
  subst h1;subst g1
  simp at e
  have:=g2 d (by simp)
  rw [← e.1] at this;omega
 | d::c,[],b,b',l,l',x,y,⟨h1,h2,h3⟩,⟨g1,g2,g3⟩,e=>by
  subst h1;subst g1
  simp at e
  have:=h2 d (by simp)
  rw [e.1] at this;omega
 | d::c,d'::c',b,b',l,l',x,y,⟨h1,h2,h3⟩,⟨g1,g2,g3⟩,e=>by
  subst h1;subst g1
  simp only [List.cons_append,List.cons.injEq] at e ⊢
  refine ⟨e.1,?_⟩
  exact sh_pre (c:=c) (c':=c') (b:=b) (b':=b') ⟨rfl,fun z hz=>h2 z (by simp [hz]),h3⟩ ⟨rfl,fun z hz=>g2 z (by simp [hz]),g3⟩ e.2
theorem isI_sh {t l c:Bs} {b:UInt8} (hl:Sh l c b) (ht:l <+: t) {n:Int} {k:Nat}:IsI t n k↔inR n∧pI n=l∧k=l.length:=by
 constructor
 ·rintro ⟨h1,h2,y,hy⟩
  obtain ⟨x,hx⟩:=ht
  obtain ⟨c',b',h3,_⟩:=grp_sh (zz n)
  have e:pI n=l:=sh_pre h3 hl (show pI n++y=l++x by rw [hy,hx])
  exact ⟨h1,e,by rw [h2,e]⟩
 ·rintro ⟨h1,h2,h3⟩
  exact ⟨h1,by rw [h3,h2],by rw [h2];exact ht⟩
theorem isI_canon {t l c:Bs} {b:UInt8} (hl:Sh l c b) (ht:l <+: t) {n:Int} {k:Nat}:IsI t n k↔inR n∧n=uz (gv l)∧(c=[]∨b.toNat≠0)∧k=l.length:=by
 rw [isI_sh hl ht]
 constructor
 ·rintro ⟨h1,h2,h3⟩
  have e:zz n=gv l:=by rw [← h2];exact (gv_grp _).symm
  refine ⟨h1,by rw [← e,uz_zz],?_,h3⟩
  obtain ⟨c',b',g1,g2⟩:=grp_sh (zz n)
  have:c'++[b']=c++[b]:=by rw [← g1.1,← hl.1];exact h2
  obtain ⟨p,q⟩:=List.append_inj' this rfl
  simp at q
  rw [← p,← q];exact g2
 ·rintro ⟨h1,h2,h3,h4⟩
  refine ⟨h1,?_,h4⟩
  unfold pI
  rw [h2,zz_uz,sh_grp hl h3]
theorem isI_none {t:Bs} {i:Nat} (h:∀ x∈t.take i,128≤x.toNat) (hi:i=9∨t.length≤i) (n:Int) (k:Nat):¬ IsI t n k:=by
 rintro ⟨h1,h2,y,hy⟩
 obtain ⟨c,b,h3,_⟩:=grp_sh (zz n)
 have hl:=pI_len h1
 have e:pI n=c++[b]:=h3.1
 rw [e] at hl hy
 simp only [lA,List.length_singleton] at hl
 have hb:b∈t.take i:=by
  rw [← hy,aA]
  rcases hi with rfl | hi
  ·rw [List.take_append]
   obtain ⟨m,hm⟩:∃ m,9-c.length=m+1:=⟨8-c.length,by omega⟩
   rw [hm];simp
  ·rw [← hy] at hi
   rw [tkL (by rw [aA] at hi;exact hi)];simp
 have:=h b hb
 have:=h3.2.2
 omega
def IntR (s:Bs) (p:Nat) (r:Int×Int×Int):Prop:=(∀ n k,IsI (s.drop p) n k→r=(n,((p+k:Nat):Int),0))∧((∀ n k,¬ IsI (s.drop p) n k)→r=(0,0,10))
def StrR (s:Bs) (p:Nat) (r:Bs×Int×Int):Prop:=(∀ n k,IsS (s.drop p) n k→r=(n,((p+k:Nat):Int),0))∧((∀ n k,¬ IsS (s.drop p) n k)→r=([],0,10))
theorem IntR.cases {s:Bs} {p:Nat} {r:Int×Int×Int} (h:IntR s p r):(∃ n k,IsI (s.drop p) n k∧r=(n,((p+k:Nat):Int),0))∨((∀ n k,¬ IsI (s.drop p) n k)∧r=(0,0,10)):=by
 by_cases e:∃ n k,IsI (s.drop p) n k
 ·obtain ⟨n,k,e⟩:=e
  exact .inl ⟨n,k,e,h.1 n k e⟩
 ·have e2:∀ n k,¬ IsI (s.drop p) n k:=fun n k q=>e ⟨n,k,q⟩
  exact .inr ⟨e2,h.2 e2⟩
theorem StrR.cases {s:Bs} {p:Nat} {r:Bs×Int×Int} (h:StrR s p r):(∃ n k,IsS (s.drop p) n k∧r=(n,((p+k:Nat):Int),0))∨((∀ n k,¬ IsS (s.drop p) n k)∧r=([],0,10)):=by
 by_cases e:∃ n k,IsS (s.drop p) n k
 ·obtain ⟨n,k,e⟩:=e
  exact .inl ⟨n,k,e,h.1 n k e⟩
 ·have e2:∀ n k,¬ IsS (s.drop p) n k:=fun n k q=>e ⟨n,k,q⟩
  exact .inr ⟨e2,h.2 e2⟩
theorem IsI.le {t:Bs} {n:Int} {k:Nat} (h:IsI t n k):k≤t.length∧t=pI n++t.drop k:=by
 obtain ⟨_,rfl,x,hx⟩:=h
 rw [← hx]
 simp
theorem IsS.le {t u:Bs} {k:Nat} (h:IsS t u k):k≤t.length∧t=pS u++t.drop k:=by
 obtain ⟨_,rfl,x,hx⟩:=h
 rw [← hx]
 simp
end Go.Ar
namespace Go.Proofs.YtobfnefajpiakaaGreatDoor
open Go Go.Lib Go.Abs Go.PE Go.Ar
variable [EA]
theorem wu64 (n:Int):IntKind.wrap .u64 n=n % 18446744073709551616:=by simp [IntKind.wrap,IntKind.bits,IntKind.signed]
theorem wu64_in {n:Int} (h0:0≤n) (h:n<18446744073709551616):IntKind.wrap .u64 n=n:=by rw [wu64];omega
theorem wu32_in {n:Int} (h0:0≤n) (h:n<4294967296):IntKind.wrap .u32 n=n:=IntWalk.u32_in n ⟨h0,by omega⟩
theorem wu8_in {n:Int} (h0:0≤n) (h:n<256):IntKind.wrap .u8 n=n:=IntWalk.u8_in n ⟨h0,by omega⟩
theorem wu32 (n:Int):IntKind.wrap .u32 n=n % 4294967296:=by simp [IntKind.wrap,IntKind.bits,IntKind.signed]
theorem wu8 (n:Int):IntKind.wrap .u8 n=n % 256:=by simp [IntKind.wrap,IntKind.bits,IntKind.signed]
theorem bv64 (a:Nat):(BitVec.ofInt IntKind.u64.bits (a:Int)).toNat=a % 18446744073709551616:=by rw [BitVec.ofInt_natCast];rfl
theorem bv32 (a:Nat):(BitVec.ofInt IntKind.u32.bits (a:Int)).toNat=a % 4294967296:=by rw [BitVec.ofInt_natCast];rfl
theorem bv8 (a:Nat):(BitVec.ofInt IntKind.u8.bits (a:Int)).toNat=a % 256:=by rw [BitVec.ofInt_natCast];rfl
theorem xor64 {a b:Nat} (ha:a<18446744073709551616) (hb:b<18446744073709551616):bitM .xor .u64 a b=((a ^^^ b:Nat):Int):=by
 unfold bitM
 dsimp only
 rw [BitVec.toNat_xor,bv64,bv64,Nat.mod_eq_of_lt ha,Nat.mod_eq_of_lt hb]
 have:=Nat.xor_lt_two_pow (n:=64) ha hb
 exact wu64_in (by omega) (by omega)
theorem and64 {a b:Nat} (ha:a<18446744073709551616) (hb:b<18446744073709551616):bitM .and .u64 a b=((a &&& b:Nat):Int):=by
 unfold bitM
 dsimp only
 rw [BitVec.toNat_and,bv64,bv64,Nat.mod_eq_of_lt ha,Nat.mod_eq_of_lt hb]
 have:=Nat.and_lt_two_pow (n:=64) a hb
 exact wu64_in (by omega) (by omega)
theorem or64 {a b:Nat} (ha:a<18446744073709551616) (hb:b<18446744073709551616):bitM .or .u64 a b=((a ||| b:Nat):Int):=by
 unfold bitM
 dsimp only
 rw [BitVec.toNat_or,bv64,bv64,Nat.mod_eq_of_lt ha,Nat.mod_eq_of_lt hb]
 have:=Nat.or_lt_two_pow (n:=64) ha hb
 exact wu64_in (by omega) (by omega)
theorem and8 {a b:Nat} (ha:a<256) (hb:b<256):bitM .and .u8 a b=((a &&& b:Nat):Int):=by
 unfold bitM
 dsimp only
 rw [BitVec.toNat_and,bv8,bv8,Nat.mod_eq_of_lt ha,Nat.mod_eq_of_lt hb]
 have:=Nat.and_lt_two_pow (n:=8) a hb
 exact wu8_in (by omega) (by omega)
theorem or8 {a b:Nat} (ha:a<256) (hb:b<256):bitM .or .u8 a b=((a ||| b:Nat):Int):=by
 unfold bitM
 dsimp only
 rw [BitVec.toNat_or,bv8,bv8,Nat.mod_eq_of_lt ha,Nat.mod_eq_of_lt hb]
 have:=Nat.or_lt_two_pow (n:=8) ha hb
 exact wu8_in (by omega) (by omega)
theorem and127 (a:Nat):a &&& 127=a % 128:=Nat.and_two_pow_sub_one_eq_mod a 7
theorem and1 (a:Nat):a &&& 1=a % 2:=Nat.and_two_pow_sub_one_eq_mod a 1
theorem or128 {a:Nat} (h:a<128):a ||| 128=a+128:=by
 have:=Nat.two_pow_add_eq_or_of_lt (i:=7) h 1
 rw [Nat.or_comm,Nat.add_comm];simpa using this.symm
theorem xorAll64 {a:Nat} (h:a<18446744073709551616):a ^^^ 18446744073709551615=18446744073709551615-a:=by
 have e:((BitVec.ofNat 64 a) ^^^ BitVec.allOnes 64).toNat=(~~~ (BitVec.ofNat 64 a)).toNat:=by rw [BitVec.xor_allOnes]
 rw [BitVec.toNat_xor,BitVec.toNat_not,BitVec.toNat_allOnes,BitVec.toNat_ofNat,Nat.mod_eq_of_lt h] at e
 simpa using e
theorem shrM_of {k:IntKind} {a:Int} {n:Nat} (h:n≤k.bits):shrM k a (n:Int)=some (a.fdiv (2 ^ n)):=by
 unfold shrM
 rw [dF (by omega)]
 show some (a.fdiv (2 ^ min ((n:Int).toNat) k.bits))=_
 rw [Int.toNat_natCast,Nat.min_eq_left h]
theorem shlM_of {k:IntKind} {a:Int} {n:Nat} (h:n≤k.bits):shlM k a (n:Int)=some (k.wrap (a*2 ^ n)):=by
 unfold shlM
 rw [dF (by omega)]
 show some (k.wrap (a*2 ^ min ((n:Int).toNat) k.bits))=_
 rw [Int.toNat_natCast,Nat.min_eq_left h]
theorem fdiv_nat (a b:Nat):Int.fdiv (a:Int) (b:Int)=((a / b:Nat):Int):=by
 rw [Int.fdiv_eq_ediv_of_nonneg _ (by omega)];rfl
theorem lenI {α:Type} (l:List α):lenM l=(l.length:Int):=rfl
theorem catM_of {x y:List UInt8} (h:x.length+y.length≤9223372036854775807):catM x y=some (x++y):=by unfold catM;rw [Nat.ble_eq_true_of_le h]
theorem catB_of {x y:List UInt8} (h:x.length+y.length≤140737488355328):catB x y=some (x++y):=by unfold catB;rw [Nat.ble_eq_true_of_le h]
theorem eqsT {x y:List UInt8} (h:x=y):eqsM x y=true:=dT h
theorem eqsF {x y:List UInt8} (h:x≠y):eqsM x y=false:=dF h
theorem app1 {α:Type} {b:Nat} {l:List α} {d:α} (hb:b≤1000) (h:l.length≤1000000):appM b l [d]=some (l++[d]):=by
 refine appM_of ?_
 have:(l.length+[d].length)*b≤(l.length+[d].length)*1000:=Nat.mul_le_mul_left _ hb
 simp only [List.length_singleton] at *
 omega
theorem byteM_of {s:List UInt8} {i:Nat} {b:UInt8} (h:s[i]? = some b):byteM s (i:Int)=some (b.toNat:Int):=by
 unfold byteM
 rw [dT (by omega)]
 simp only [Int.toNat_natCast,h]
def nB (s:Bs):List Int:=s.map fun b=>(b.toNat:Int)
theorem strB_nB (s:Bs):strB (nB s)=s:=by
 unfold strB nB
 rw [List.map_map]
 have:((fun n:Int=>UInt8.ofNat n.toNat) ∘ fun b:UInt8=>(b.toNat:Int))=id:=by
  funext b;simp
 rw [this,List.map_id]
theorem nB_len (s:Bs):(nB s).length=s.length:=by simp [nB]
theorem nB_app (s t:Bs):nB (s++t)=nB s++nB t:=by simp [nB]
theorem nB_grp_lt {z:Nat} (h:z<128):nB (grp z)=[(z:Int)]:=by rw [grp_lt h];simp [nB,u8 (show z<256 by omega)]
theorem nB_grp_ge {z:Nat} (h:128≤z):nB (grp z)=((z % 128+128:Nat):Int)::nB (grp (z / 128)):=by
 rw [grp_ge h];show ((UInt8.ofNat (z % 128+128)).toNat:Int)::_=_;rw [u8 (by omega)];rfl
theorem wPut_ok {n:Int} (h:inR n):m96 n=some (pI n,0):=by
 have h':-4611686018427387903≤n∧n≤4611686018427387903:=h
 have hz:=zz_lt h
 unfold m96
 dsimp only
 rw [geI h'.1,geI h'.2,orF,cF]
 have e0:bitM .xor .u64 (IntKind.wrap .u64 (IntKind.wrap .u64 n*2 ^ 1)) (IntKind.wrap .u64 (n.fdiv (2 ^ 63)))=(zz n:Int):=by
  by_cases hn:n<0
  ·have e1:IntKind.wrap .u64 (IntKind.wrap .u64 n*2 ^ 1)=((18446744073709551616+2*n).toNat:Int):=by rw [wu64 n,wu64];omega
   have e2:n.fdiv (2 ^ 63)=-1:=by
    rw [Int.fdiv_eq_ediv_of_nonneg _ (by decide)]
    omega
   rw [e1,e2,wu64,show (-1:Int) % 18446744073709551616=((18446744073709551615:Nat):Int) by decide,xor64 (by omega) (by omega),xorAll64 (by omega)]
   unfold zz
   rw [if_pos hn];omega
  ·have e1:IntKind.wrap .u64 (IntKind.wrap .u64 n*2 ^ 1)=((2*n).toNat:Int):=by rw [wu64 n,wu64];omega
   have e2:n.fdiv (2 ^ 63)=0:=by
    rw [Int.fdiv_eq_ediv_of_nonneg _ (by decide)]
    omega
   rw [e1,e2,wu64,show (0:Int) % 18446744073709551616=((0:Nat):Int) by decide,xor64 (by omega) (by omega),Nat.xor_zero]
   unfold zz
   rw [if_neg hn]
 rw [show (1:Int)=((1:Nat):Int) from rfl,shlM_of (k:=.u64) (by decide),oB,show (63:Int)=((63:Nat):Int) from rfl,shrM_of (k:=.i64) (by decide),oB,e0]
 have key:Ans (loopM (fun (s:Int×List Int)=>(bif PE.notM (ltM s.1 128) then some (bitM BinOp.or .u8 (IntKind.wrap .u8 (bitM BinOp.and .u64 s.1 127)) 128) else some (IntKind.wrap .u8 (bitM BinOp.and .u64 s.1 127))).bind fun o=>(appM (nat_lit 1) s.2 [o]).bind fun r_2=>bif PE.orM false (ltM s.1 128) then some (Sum.inr (s.1,r_2)) else (shrM .u64 s.1 7).bind fun r=>some (Sum.inl (r,r_2))) ((zz n:Int),([]:List Int))) (fun r=>r.2=nB (pI n)):=by
  refine Ans.loop (fun k s=>∃ z:Nat,s.1=z∧s.2.length=k∧z<128 ^ (10-k)∧z<9223372036854775807∧s.2++nB (grp z)=nB (pI n)) 10 ⟨zz n,rfl,rfl,Nat.lt_trans hz (by decide),hz,rfl⟩ ?_
  rintro k ⟨s1,s2⟩ hk ⟨z,h1,h2,h3,hz64,h4⟩
  dsimp only at h1 h2 h4 ⊢
  subst h1
  rw [show (127:Int)=((127:Nat):Int) from rfl,and64 (by omega) (by omega),and127,wu8_in (by omega) (by omega)]
  by_cases hs:z<128
  ·rw [ltI (by omega),notT,cF,oB,app1 (by decide) (by omega),oB,orF,cT]
   refine Ans.some ?_
   show s2++[((z % 128:Nat):Int)]=_
   rw [← h4,nB_grp_lt hs,Nat.mod_eq_of_lt hs]
  ·rw [geI (by omega),notF,cT,oB,show (128:Int)=((128:Nat):Int) from rfl,or8 (by omega) (by omega),or128 (by omega),app1 (by decide) (by omega),oB,orF,cF,show (7:Int)=((7:Nat):Int) from rfl,shrM_of (k:=.u64) (by decide),oB]
   obtain ⟨j,hj⟩:∃ j,10-k=j+1:=⟨10-k-1,by
    have:k≠10:=fun e=>by subst e;simp at h3;omega
    omega⟩
   refine Ans.some ⟨by omega,z / 128,?_,by simp [h2],?_,by omega,?_⟩
   ·show Int.fdiv (z:Int) ((128:Nat):Int)=_
    rw [fdiv_nat]
   ·rw [hj,Nat.pow_succ] at h3
    rw [show 10-(k+1)=j by omega];omega
   ·show (s2++[((z % 128+128:Nat):Int)])++nB (grp (z / 128))=_
    rw [← h4,nB_grp_ge (z:=z) (by omega),aA];rfl
 obtain ⟨r,h1,h2⟩:=key
 refine bind_of h1 ?_
 rw [h2,strB_nB]
theorem inR_len {s:Bs} (h:s.length≤65536):inR s.length:=by unfold inR;omega
theorem pS_len {s:Bs} (h:s.length≤65536):(pS s).length≤s.length+9:=by
 have:=pI_len (inR_len h)
 unfold pS;rw [lA];omega
theorem not_inR {n:Int} (h:¬ inR n):PE.orM (ltM n (-4611686018427387903)) (ltM 4611686018427387903 n)=true:=by
 unfold inR at h
 by_cases h1:n < -4611686018427387903
 ·rw [ltI h1,orT]
 ·rw [ltI (a:=4611686018427387903) (by omega)];unfold PE.orM;simp
theorem wPutS_ok {s:Bs} (h:s.length≤65536):m71 s=some (pS s,0):=by
 unfold m71
 try dsimp only
 rw [lenI,geI (by omega),cF,wPut_ok (inR_len h),oB,catM_of (by have:=pI_len (inR_len h);dsimp only;omega),oB]
 rfl
variable [EA]
theorem remM_nat (a b:Nat) (hb:0<b):remM (a:Int) (b:Int)=some ((a % b:Nat):Int):=by rw [remM_of (by omega) (by omega)];rfl
theorem divM_nat {k:IntKind} (a b:Nat) (hb:0<b):divM k (a:Int) (b:Int)=some (k.wrap ((a / b:Nat):Int)):=by
 rw [divM_pos (by omega),Int.tdiv_eq_ediv_of_nonneg (by omega)];rfl
theorem zig_ok {n:Int} (h:inR n):m86 n=some (zz n:Int):=by
 have h':-4611686018427387903≤n∧n≤4611686018427387903:=h
 unfold m86 negM
 try dsimp only
 by_cases hn:n<0
 ·rw [ltI hn,cT,wrap_in (by omega) (by omega),wu64_in (n:=-n) (by omega) (by omega),wu64_in (n:=-n*2) (by omega) (by omega),wu64_in (by omega) (by omega)]
  unfold zz
  rw [if_pos hn];congr 1;omega
 ·rw [geI (by omega),cF,wu64_in (n:=n) (by omega) (by omega),wu64_in (by omega) (by omega)]
  unfold zz
  rw [if_neg hn];congr 1;omega
theorem rPut_ok {n:Int} (h:inR n):m56 n=some (pI n,0):=by
 have h':-4611686018427387903≤n∧n≤4611686018427387903:=h
 have hz:=zz_lt h
 unfold m56
 try dsimp only
 rw [geI h'.1,geI h'.2,orF,cF,zig_ok h,oB]
 have key:Ans (loopM (fun (s:Int×List Int)=>bif leM 128 s.1 then (remM s.1 128).bind fun r_1=>(appM (nat_lit 1) s.2 [IntKind.wrap .u8 (IntKind.wrap .u64 (r_1+128))]).bind fun r_2=>(divM .u64 s.1 128).bind fun r=>some (Sum.inl (r,r_2)) else some (Sum.inr (s.1,s.2))) ((zz n:Int),([]:List Int))) (fun r=>r.2.length≤10∧∃ z:Nat,r.1=z∧z<128∧r.2++[(z:Int)]=nB (pI n)):=by
  refine Ans.loop (fun k s=>∃ z:Nat,s.1=z∧s.2.length=k∧z<128 ^ (10-k)∧z<9223372036854775807∧s.2++nB (grp z)=nB (pI n)) 10 ⟨zz n,rfl,rfl,Nat.lt_trans hz (by decide),hz,rfl⟩ ?_
  rintro k ⟨s1,s2⟩ hk ⟨z,h1,h2,h3,hz64,h4⟩
  dsimp only at h1 h2 h4 ⊢
  subst h1
  by_cases hs:z<128
  ·rw [gtI (by omega),cF]
   exact Ans.some ⟨by rw [h2];exact hk,z,rfl,hs,by rw [← h4,nB_grp_lt hs]⟩
  ·obtain ⟨j,hj⟩:∃ j,10-k=j+1:=⟨10-k-1,by
    have:k≠10:=fun e=>by subst e;simp at h3;omega
    omega⟩
   rw [leI (by omega),cT,show (128:Int)=((128:Nat):Int) from rfl,remM_nat _ _ (by decide),oB,wu64_in (by omega) (by omega),wu8_in (by omega) (by omega),app1 (by decide) (by omega),oB,divM_nat _ _ (by decide),oB,wu64_in (by omega) (by omega)]
   refine Ans.some ⟨by omega,z / 128,rfl,by simp [h2],?_,by omega,?_⟩
   ·rw [hj,Nat.pow_succ] at h3
    rw [show 10-(k+1)=j by omega];omega
   ·show (s2++[((z % 128:Nat):Int)+((128:Nat):Int)])++nB (grp (z / 128))=_
    rw [← h4,nB_grp_ge (z:=z) (by omega),aA];rfl
 obtain ⟨r,h1,hl,z,h2,h3,h4⟩:=key
 refine bind_of h1 ?_
 rw [h2,wu8_in (by omega) (by omega),app1 (by decide) (by omega),oB,h4,strB_nB]
theorem rPutS_ok {s:Bs} (h:s.length≤65536):m73 s=some (pS s,0):=by
 unfold m73
 try dsimp only
 rw [lenI,geI (by omega),cF,rPut_ok (inR_len h),oB,catM_of (by have:=pI_len (inR_len h);dsimp only;omega),oB]
 rfl
variable [EA]
theorem xorI (a b:Nat):bitM .xor .u32 (a:Int) (b:Int)=((xW a b:Nat):Int):=by
 unfold bitM xW mW
 dsimp only
 rw [BitVec.toNat_xor,bv32,bv32]
 have:=Nat.xor_lt_two_pow (n:=32) (x:=a % 4294967296) (y:=b % 4294967296) (Nat.mod_lt _ (by decide)) (Nat.mod_lt _ (by decide))
 exact wu32_in (by omega) (by omega)
theorem andI (a b:Nat):bitM .and .u32 (a:Int) (b:Int)=((aW a b:Nat):Int):=by
 unfold bitM aW mW
 dsimp only
 rw [BitVec.toNat_and,bv32,bv32]
 have:=Nat.and_lt_two_pow (n:=32) (a % 4294967296) (y:=b % 4294967296) (Nat.mod_lt _ (by decide))
 exact wu32_in (by omega) (by omega)
theorem orI (a b:Nat):bitM .or .u32 (a:Int) (b:Int)=((oW a b:Nat):Int):=by
 unfold bitM oW mW
 dsimp only
 rw [BitVec.toNat_or,bv32,bv32]
 have:=Nat.or_lt_two_pow (n:=32) (x:=a % 4294967296) (y:=b % 4294967296) (Nat.mod_lt _ (by decide)) (Nat.mod_lt _ (by decide))
 exact wu32_in (by omega) (by omega)
theorem cplI (a:Nat):cplM .u32 (a:Int)=((xW 4294967295 a:Nat):Int):=by
 unfold cplM
 rw [show (if IntKind.u32.signed then (-1:Int) else IntKind.u32.max)=((4294967295:Nat):Int) by decide,xorI]
theorem wrapI (a:Nat):IntKind.wrap .u32 (a:Int)=((mW a:Nat):Int):=by rw [wu32];rfl
theorem addI (a b:Nat):IntKind.wrap .u32 ((a:Int)+(b:Int))=((mW (a+b):Nat):Int):=by rw [wu32];rfl
theorem shlI (a:Nat) {n:Int} (k:Nat) (e:n=k) (h:k≤32):shlM .u32 (a:Int) n=some ((shl a k:Nat):Int):=by
 subst e
 rw [shlM_of (k:=.u32) h,wu32]
 unfold shl mW
 congr 1
theorem shrI {k:IntKind} (a:Nat) {n:Int} (j:Nat) (e:n=j) (h:j≤k.bits):shrM k (a:Int) n=some ((shr a j:Nat):Int):=by
 subst e
 rw [shrM_of h]
 unfold shr
 have:((2:Int) ^ j)=((2 ^ j:Nat):Int):=by rw [Int.natCast_pow];rfl
 rw [this,fdiv_nat]
theorem oW_comm (a b:Nat):oW a b=oW b a:=Nat.or_comm _ _
theorem xW_zero (a b:Nat):xW (xW 0 a) b=xW a b:=by
 unfold xW mW
 rw [Nat.zero_mod,Nat.zero_xor,Nat.mod_mod]
theorem loopM_at {σ β:Type} {body:σ→Option (σ⊕β)} {s:σ} (g:Nat→σ) (n:Nat) {r:β} (hs:s=g 0) (h:∀ k,k<n→body (g k)=some (.inl (g (k+1)))) (he:body (g n)=some (.inr r)):loopM body s=some r:=by
 subst hs;exact loopM_fn g n h he
theorem remM_nat' (a b:Nat) (hb:0<b):remM (a:Int) (b:Int)=some ((a % b:Nat):Int):=by rw [remM_of (by omega) (by omega)];rfl
theorem ofNat_mod (n:Nat):UInt8.ofNat ((n:Int) % 256).toNat=UInt8.ofNat n:=by
 rw [show ((n:Int) % 256).toNat=n % 256 by omega]
 apply u8eq;simp
theorem neg31:∀ k:Fin 32,0<k.val→bitM .and .u64 (IntKind.wrap .u64 (IntKind.wrap .i64 (negM (k.val:Int)))) 31=((32-k.val:Nat):Int)∧IntKind.wrap .u64 (32-((32-k.val:Nat):Int))=(k.val:Int):=by decide +kernel
theorem mixed_ok (x:Nat) {l:List Nat} (hl:∀ n∈l,0<n∧n<32) (hn:l.length≤10):m145 ((x:Int),l.map fun n:Nat=>(n:Int))=some ((l.foldl (fun o n=>xW o (rot x n)) 0:Nat):Int):=by
 unfold m145
 dsimp only
 refine bind_of (loopM_fn (fun k=>((((l.take k).foldl (fun o n=>xW o (rot x n)) 0:Nat):Int),(k:Int))) l.length (r:=((l.foldl (fun o n=>xW o (rot x n)) 0:Nat):Int)) (fun k hk=>?_) ?_) rfl
 ·dsimp only
  obtain ⟨h0,h1⟩:=hl l[k] (by simp)
  obtain ⟨e1,e2⟩:=neg31 ⟨l[k],h1⟩ h0
  dsimp only at e1 e2
  rw [lenI,ltI (by simp;omega),cT,idxM_nat,List.getElem?_map,gE hk,Option.map_some,oB,e1,shlI x (32-l[k]) rfl (by omega),oB,e2,shrI x l[k] rfl (by show l[k]≤32;omega),oB,orI,xorI,wrap_in (by omega) (by omega),List.take_add_one,gE hk,Option.toList_some,List.foldl_append,oW_comm]
  rfl
 ·dsimp only
  rw [lenI,geI (by simp),cF,List.take_length]
theorem mixed2 (x n m:Nat) (h1:0<n∧n<32) (h2:0<m∧m<32):m145 ((x:Int),[(n:Int),(m:Int)])=some ((xW (rot x n) (rot x m):Nat):Int):=by
 have:=mixed_ok x (l:=[n,m]) (by simp [h1,h2]) (by simp)
 simp only [List.map_cons,List.map_nil,List.foldl_cons,List.foldl_nil,xW_zero] at this
 exact this
theorem mixed3 (x n m k:Nat) (h1:0<n∧n<32) (h2:0<m∧m<32) (h3:0<k∧k<32):m145 ((x:Int),[(n:Int),(m:Int),(k:Int)])=some ((xW (xW (rot x n) (rot x m)) (rot x k):Nat):Int):=by
 have:=mixed_ok x (l:=[n,m,k]) (by simp [h1,h2,h3]) (by simp)
 simp only [List.map_cons,List.map_nil,List.foldl_cons,List.foldl_nil,xW_zero] at this
 exact this
theorem rot_ok (x n:Nat) (h:n<32):m87 ((x:Int),(n:Int))=some ((rot x n:Nat):Int):=by
 unfold m87
 dsimp only
 rw [shrI x n rfl (by show n≤32;omega),oB,wrap_in (by omega) (by omega),shlI x (32-n) (by omega) (by omega),oB,orI]
 rfl
abbrev iL (l:List Nat):List Int:=l.map fun n:Nat=>(n:Int)
theorem iL_len (l:List Nat):(iL l).length=l.length:=by simp
theorem iL_idx {l:List Nat} {i:Nat} (h:i<l.length):idxM (iL l) (i:Int)=some ((l.getD i 0:Nat):Int):=by
 rw [idxM_nat,List.getElem?_map,gE h];simp [h]
theorem z01 (i:Int):((nat_lit 0:Nat):Int)+i*((nat_lit 1:Nat):Int)=i:=by show 0+i*1=i;omega
theorem set_next {l:List Nat} {k n y:Nat} (h:l.length=k):(l++List.replicate (n+1) 0).set k y=(l++[y])++List.replicate n 0:=by
 subst h
 rw [List.set_append_right _ _ (nR _),Nat.sub_self,List.replicate_succ,List.set_cons_zero,aA];rfl
theorem iL_set {l:List Nat} {j:Int} (i:Nat) (e:j=i) (h:i<l.length) {f:Int→Option Int} {y:Nat} (hf:∀ x,f x=some (y:Int)):setM (iL l) j f=some (iL (l.set i y)):=by
 subst e
 rw [setM_of (by omega) (by rw [iL_len];omega) (hf _)]
 simp [iL]
theorem iL_slice {l:List Nat} {i j:Int} (a b:Nat) (ei:i=a) (ej:j=b) (h:a≤b) (hb:b≤l.length):sliceM (iL l) i j=some (iL ((l.drop a).take (b-a))):=by
 subst ei;subst ej
 rw [sliceM_of (by omega) (by omega) (by rw [iL_len];omega),Int.toNat_natCast,Int.toNat_natCast,List.drop_take,iL,← List.map_drop,← List.map_take]
theorem getD_app {l m:List Nat} {i:Nat} (h:i<l.length):(l++m).getD i 0=l.getD i 0:=by
 rw [List.getD_eq_getElem?_getD,xL h,← List.getD_eq_getElem?_getD]
theorem wMore_succ:∀ (j:Nat) (w:List Nat),wMore (j+1) w=wMore j w++[wNext (wMore j w)]
 | 0,w=>rfl
 | j+1,w=>by
  rw [wMore,wMore_succ j,← wMore]
theorem wMore_len:∀ (j:Nat) (w:List Nat),(wMore j w).length=w.length+j
 | 0,w=>rfl
 | j+1,w=>by rw [wMore,wMore_len j];simp;omega
theorem w16_succ (b:List Nat) (k:Nat):(List.range (k+1)).map (w4 b)=(List.range k).map (w4 b)++[w4 b k]:=by rw [List.range_succ,List.map_append];rfl
theorem rnds_take {l:List (Nat×Nat)} {k:Nat} (hk:k<l.length) (v:List Nat):(l.take (k+1)).foldl rnd v=rnd ((l.take k).foldl rnd v) l[k]:=by
 rw [List.take_add_one,gE hk,Option.toList_some,List.foldl_append];rfl
theorem eight {v:List Nat} (h:v.length=8):∃ a b c d e f g i,v=[a,b,c,d,e,f,g,i]:=by
 match v,h with
 | [a,b,c,d,e,f,g,i],_=>exact ⟨a,b,c,d,e,f,g,i,rfl⟩
variable [EA]
set_option maxRecDepth 100000
def rndsN (b h:List Nat) (k:Nat):List Nat:=((kSha.zip (wAll b)).take k).foldl rnd h
theorem wAll_len (b:List Nat):(wAll b).length=64:=by unfold wAll;rw [wMore_len];simp
theorem kz_len (b:List Nat):(kSha.zip (wAll b)).length=64:=by rw [List.length_zip,wAll_len];rfl
theorem kz_get (b:List Nat) {k:Nat} (h:k<64):(kSha.zip (wAll b))[k]'(by rw [kz_len];exact h)=(kSha.getD k 0,(wAll b).getD k 0):=by
 rw [List.getElem_zip]
 simp [List.getD_eq_getElem?_getD,gE (show k<kSha.length from h),gE (show k<(wAll b).length by rw [wAll_len];exact h)]
theorem rndsN_len (b:List Nat) {h:List Nat} (hh:h.length=8) (k:Nat):(rndsN b h k).length=8:=rnds_len _ _ hh
theorem rndsN_succ (b h:List Nat) {k:Nat} (hk:k<64):rndsN b h (k+1)=rnd (rndsN b h k) (kSha.getD k 0,(wAll b).getD k 0):=by
 unfold rndsN
 rw [rnds_take (by rw [kz_len];exact hk),kz_get b hk]
theorem blk_eq (h b:List Nat):blk h b=List.zipWith (fun x y=>mW (x+y)) h (rndsN b h 64):=by
 unfold blk rndsN
 rw [tkL (by rw [kz_len];exact nR _)]
theorem idx64 {o:List Int} {i:Int} (h:o.length=64):idxM ((List.range 64).map fun k=>nthD o k 0) i=idxM o i:=by
 congr 1
 apply List.ext_getElem?
 intro k
 by_cases hk:k<64
 ·rw [List.getElem?_map,List.getElem?_range hk,gE (by omega)]
  unfold nthD
  simp [List.getD_eq_getElem?_getD,gE (show k<o.length by omega)]
 ·rw [List.getElem?_eq_none (by simp;omega),List.getElem?_eq_none (by omega)]
theorem nth8 {h:List Nat} (hh:h.length=8):[nthD (iL h) (nat_lit 0) 0,nthD (iL h) (nat_lit 1) 0,nthD (iL h) (nat_lit 2) 0,nthD (iL h) (nat_lit 3) 0,nthD (iL h) (nat_lit 4) 0,nthD (iL h) (nat_lit 5) 0,nthD (iL h) (nat_lit 6) 0,nthD (iL h) (nat_lit 7) 0]=iL h:=by
 obtain ⟨a,b,c,d,e,f,g,i,rfl⟩:=eight hh
 rfl
theorem wk (i:Int) {j:Int} (h1:0≤j) (h2:j≤1000) (e:j=i):IntKind.wrap .i64 i=j:=by rw [wrap_in (by omega) (by omega),e]
theorem digest_ok {h:List Nat} (hh:h.length=8):m130 (nthD (iL h) (nat_lit 0) 0,nthD (iL h) (nat_lit 1) 0,nthD (iL h) (nat_lit 2) 0,nthD (iL h) (nat_lit 3) 0,nthD (iL h) (nat_lit 4) 0,nthD (iL h) (nat_lit 5) 0,nthD (iL h) (nat_lit 6) 0,nthD (iL h) (nat_lit 7) 0)=some (wBytes h):=by
 unfold m130
 dsimp only
 rw [nth8 hh]
 let B:Nat→List Nat:=fun x=>[shr x 24 % 256,shr x 16 % 256,shr x 8 % 256,x % 256]
 have hB:∀ l:List Nat,(l.flatMap B).length=4*l.length:=fun l=>by
  induction l with
  | nil=>rfl
  | cons a l ih=>rw [List.flatMap_cons,lA,ih];simp [B];omega
 refine bind_of (loopM_fn (fun k=>((k:Int),iL ((h.take k).flatMap B++List.replicate (32-4*k) 0))) 8 (r:=iL (h.flatMap B)) (fun k hk=>?_) ?_) ?_
 ·dsimp only
  have hP:((h.take k).flatMap B).length=4*k:=by rw [hB,lT];omega
  generalize hp:(h.take k).flatMap B=P at hP
  rw [ltI (by omega),cT,iL_idx (by omega),oB]
  generalize hx:h.getD k 0=x
  refine bind_of (loopM_at (fun j=>((j:Int),iL (P++(B x).take j++List.replicate (32-4*k-j) 0))) 4 (by simp) (r:=iL (P++B x++List.replicate (32-4*k-4) 0)) (fun j hj=>?_) ?_) ?_
  ·dsimp only
   rw [ltI (by omega),cT,wk (8*(j:Int)) (j:=8*(j:Int)) (by omega) (by omega) rfl,wk (24-8*(j:Int)) (j:=((24-8*j:Nat):Int)) (by omega) (by omega) (by omega),shrI x (24-8*j) rfl (by show _≤32;omega),oB,wk (4*(k:Int)) (j:=4*(k:Int)) (by omega) (by omega) rfl,wk (4*(k:Int)+(j:Int)) (j:=((4*k+j:Nat):Int)) (by omega) (by omega) (by omega),chkM_of (by omega) (by show ((4*k+j:Nat):Int)<32;omega),oB,z01]
   have hT:(P++(B x).take j).length=4*k+j:=by rw [lA,hP,lT];simp [B];omega
   rw [iL_set (4*k+j) rfl (by rw [lA,hT,List.length_replicate];omega) (y:=shr x (24-8*j) % 256) (fun _=>by rw [wu8];rfl),oB,wk ((j:Int)+1) (j:=((j+1:Nat):Int)) (by omega) (by omega) (by omega)]
   obtain ⟨m,hm⟩:∃ m,32-4*k-j=m+1:=⟨32-4*k-j-1,by omega⟩
   rw [hm,set_next hT,show 32-4*k-(j+1)=m by omega]
   have e:(B x).take j++[shr x (24-8*j) % 256]=(B x).take (j+1):=by
    match j,hj with
    | 0,_=>rfl
    | 1,_=>rfl
    | 2,_=>rfl
    | 3,_=>show _=B x;simp [B,shr]
   rw [aA P,e]
  ·dsimp only
   rw [geI (by omega),cF]
   rfl
  ·rw [wk ((k:Int)+1) (j:=((k+1:Nat):Int)) (by omega) (by omega) (by omega),List.take_add_one,gE (show k<h.length by omega),Option.toList_some,List.flatMap_append,hp]
   have:h[k]'(by omega)=x:=by rw [← hx,List.getD_eq_getElem?_getD,gE (by omega)];rfl
   rw [this,show 32-4*k-4=32-4*(k+1) by omega]
   simp only [List.flatMap_cons,List.flatMap_nil,List.append_nil]
 ·dsimp only
  rw [geI (by omega),cF,tkL (by omega)]
  simp
 ·have e:partV (iL (h.flatMap B)) (nat_lit 0) (nat_lit 32)=iL (h.flatMap B):=by
   show ((iL (h.flatMap B)).drop 0).take 32=_
   rw [List.drop_zero,tkL (by rw [iL_len,hB];omega)]
  rw [e]
  unfold strB wBytes iL
  rw [List.map_map]
  congr 1
  rw [List.map_flatMap]
  congr 1
  funext x
  simp [B,ofNat_mod]
variable [EA]
set_option maxRecDepth 100000
theorem blks_succ:∀ (k:Nat) (h b:List Nat),blks (k+1) h b=blk (blks k h b) ((b.drop (64*k)).take 64)
 | 0,h,b=>by simp [blks]
 | k+1,h,b=>by
  rw [blks,blks_succ k,← blks,List.drop_drop]
  congr 3
  omega
theorem nZ_lt {L k:Nat} (h:k<nZ L):(L+1+k) % 64≠56:=by unfold nZ at h;omega
theorem nZ_eq (L:Nat):(L+1+nZ L) % 64=56:=by unfold nZ;omega
theorem nZ_le (L:Nat):nZ L≤63:=by unfold nZ;omega
theorem pad_len (b:List Nat):(pad b).length=b.length+1+nZ b.length+8:=by unfold pad;simp;omega
theorem bytes_of (s:Bs):(s.map fun b=>(b.toNat:Int))=iL (s.map UInt8.toNat):=by rw [iL,List.map_map];rfl
theorem app_iL {l:List Nat} {c:Nat} {y:Nat} {d:Int} (e:d=y) (hc:c≤8) (h:l.length≤1000000):appM c (iL l) [d]=some (iL (l++[y])):=by
 subst e
 rw [appM_of]
 ·simp [iL]
 ·rw [iL_len]
  have:(l.length+[(y:Int)].length)*c≤(l.length+[(y:Int)].length)*8:=Nat.mul_le_mul_left _ hc
  simp only [List.length_singleton] at *
  omega
theorem w4_ok {b:List Nat} (hb:b.length=64) {k:Nat} (hk:k<16) {β:Type} {f:Int→Option β} {r:β} (h:f ((w4 b k:Nat):Int)=some r) :
  ((idxM (iL b) (IntKind.wrap .i64 (4*(k:Int)))).bind fun r_4=>(shlM .u32 (IntKind.wrap .u32 r_4) 24).bind fun r_5=>(idxM (iL b) (IntKind.wrap .i64 (IntKind.wrap .i64 (4*(k:Int))+1))).bind fun r_6=>(shlM .u32 (IntKind.wrap .u32 r_6) 16).bind fun r_7=>(idxM (iL b) (IntKind.wrap .i64 (IntKind.wrap .i64 (4*(k:Int))+2))).bind fun r_8=>(shlM .u32 (IntKind.wrap .u32 r_8) 8).bind fun r_9=>(idxM (iL b) (IntKind.wrap .i64 (IntKind.wrap .i64 (4*(k:Int))+3))).bind fun r_10=>f (bitM BinOp.or .u32 (bitM BinOp.or .u32 (bitM BinOp.or .u32 r_5 r_7) r_9) (IntKind.wrap .u32 r_10)))=some r:=by
 rw [wk (4*(k:Int)) (j:=((4*k:Nat):Int)) (by omega) (by omega) (by omega),iL_idx (by omega),oB,wrapI,shlI (n:=24) _ 24 rfl (by omega),oB,
  wk (((4*k:Nat):Int)+1) (j:=((4*k+1:Nat):Int)) (by omega) (by omega) (by omega),iL_idx (by omega),oB,wrapI,shlI (n:=16) _ 16 rfl (by omega),oB,
  wk (((4*k:Nat):Int)+2) (j:=((4*k+2:Nat):Int)) (by omega) (by omega) (by omega),iL_idx (by omega),oB,wrapI,shlI (n:=8) _ 8 rfl (by omega),oB,
  wk (((4*k:Nat):Int)+3) (j:=((4*k+3:Nat):Int)) (by omega) (by omega) (by omega),iL_idx (by omega),oB,wrapI,orI,orI,orI]
 exact h
theorem wSum_ok {s:Bs} (hs:s.length≤900000):m110 s=some (sha s):=by
 unfold m110
 generalize hb0:s.map UInt8.toNat=b0
 have hL:b0.length=s.length:=by rw [← hb0];simp
 refine bind_of (x:=iL b0) (by unfold bytesM;rw [Nat.ble_eq_true_of_le (by omega),bytes_of,hb0]) ?_
 refine bind_of (x:=iL (b0++[128])) (app_iL rfl (by decide) (by omega)) ?_
 refine bind_of (x:=iL (b0++[128]++List.replicate (nZ b0.length) 0)) (loopM_at (fun k=>iL (b0++[128]++List.replicate k 0)) (nZ b0.length) (by simp) (fun k hk=>?_) ?_) ?_
 ·have hz:=nZ_le b0.length
  have hl:lenM (iL (b0++[128]++List.replicate k 0))=((b0.length+1+k:Nat):Int):=by rw [lenI];simp;omega
  have:=nZ_lt hk
  dsimp only
  rw [hl,show (64:Int)=((64:Nat):Int) from rfl,remM_nat' _ _ (by decide),oB,neI (by omega),notF,cT,app_iL (d:=0) (c:=nat_lit 1) (y:=0) rfl (by decide) (by simp;omega),oB,aA _ _ [0],List.replicate_succ']
 ·have hl:lenM (iL (b0++[128]++List.replicate (nZ b0.length) 0))=((b0.length+1+nZ b0.length:Nat):Int):=by rw [lenI];simp;omega
  have:=nZ_eq b0.length
  dsimp only
  rw [hl,show (64:Int)=((64:Nat):Int) from rfl,remM_nat' _ _ (by decide),oB,eqI (by omega),notT,cF]
 generalize hP:b0++[128]++List.replicate (nZ b0.length) 0=P
 have hPl:P.length=b0.length+1+nZ b0.length:=by rw [← hP];simp;omega
 have hz:=nZ_le b0.length
 refine bind_of (x:=iL (P++(List.range 8).map fun i=>shr (8*b0.length) (8*(7-i)) % 256)) (loopM_at (fun k=>((7:Int)-(k:Int),iL (P++(List.range k).map fun i=>shr (8*b0.length) (8*(7-i)) % 256))) 8 (by simp) (fun k hk=>?_) ?_) ?_
 ·dsimp only
  rw [leI (by omega),cT,lenI,← hL,wrap_in (n:=8*(b0.length:Int)) (by omega) (by omega),show 8*(b0.length:Int)=((8*b0.length:Nat):Int) by omega,wk (8*(7-(k:Int))) (j:=((8*(7-k):Nat):Int)) (by omega) (by omega) (by omega),shrI _ (8*(7-k)) rfl (by show _≤64;omega),oB,app_iL (y:=shr (8*b0.length) (8*(7-k)) % 256) (by rw [wu8];rfl) (by decide) (by simp;omega),oB,wrap_in (by omega) (by omega),List.range_succ,List.map_append,aA]
  rw [show (7:Int)-(k:Int)-1=7-((k+1:Nat):Int) by omega];rfl
 ·dsimp only
  rw [gtI (by omega),cF]
 have hQ:P++(List.range 8).map (fun i=>shr (8*b0.length) (8*(7-i)) % 256)=pad b0:=by rw [← hP];unfold pad;simp
 rw [hQ]
 have hQl:=pad_len b0
 obtain ⟨n,hn⟩:∃ n,(pad b0).length=64*n:=⟨(pad b0).length / 64,by have:=nZ_eq b0.length;omega⟩
 refine bind_of (x:=(iL (blks n hSha (pad b0)),iL (pad b0))) (loopM_at (fun k=>(((64*k:Nat):Int),iL (blks k hSha (pad b0)),iL (pad b0))) n rfl (fun k hk=>?_) ?_) ?_
 ·dsimp only
  have hkl:64*k+64≤(pad b0).length:=by omega
  have hb2:(pad b0).length≤1000000:=by omega
  have hdl:(iL ((pad b0).drop (64*k))).length=(pad b0).length-64*k:=by simp
  generalize hB:((pad b0).drop (64*k)).take 64=B
  have hBl:B.length=64:=by rw [← hB,lT,List.length_drop];omega
  have hvl:(blks k hSha (pad b0)).length=8:=blks_len k rfl
  rw [blks_succ,hB,lenI,iL_len,ltI (by omega),cT]
  generalize blks k hSha (pad b0)=h at hvl
  refine bind_of (iL_slice (64*k) (pad b0).length rfl rfl (by omega) (nR _)) ?_
  rw [tkL (by simp)]
  refine bind_of (x:=iL B) ?_ ?_
  ·have e:IntKind.wrap .i64 (((64*k:Nat):Int)+min 64 (lenM (iL ((pad b0).drop (64*k)))))=((64*k+64:Nat):Int):=by
    rw [lenI,hdl,show min (64:Int) (((pad b0).length-64*k:Nat):Int)=64 by omega,wrap_in (by omega) (by omega)];rfl
   rw [e,sameM_self,oB,iL_slice (64*k) (64*k+64) rfl rfl (by omega) hkl,show 64*k+64-64*k=64 by omega,hB]
  refine bind_of (x:=iL ((List.range 16).map (w4 B)++List.replicate 48 0)) (loopM_at (fun j=>((j:Int),iL ((List.range j).map (w4 B)++List.replicate (64-j) 0))) 16 rfl (fun j hj=>?_) ?_) ?_
  ·dsimp only
   rw [ltI (by omega),cT]
   refine w4_ok hBl hj (f:=fun w=>(chkM (j:Int) ((nat_lit 64:Nat):Int)).bind fun _=>(setM (iL ((List.range j).map (w4 B)++List.replicate (64-j) 0)) (((nat_lit 0:Nat):Int)+(j:Int)*((nat_lit 1:Nat):Int)) fun _=>some w).bind fun r=>some (Sum.inl (IntKind.wrap .i64 ((j:Int)+1),r))) ?_
   dsimp only
   obtain ⟨m,hm⟩:∃ m,64-j=m+1:=⟨63-j,by omega⟩
   rw [chkM_of (by omega) (by show (j:Int)<64;omega),oB,z01,hm,iL_set j rfl (by simp) (y:=w4 B j) (fun _=>rfl),oB,set_next (by simp),wk ((j:Int)+1) (j:=((j+1:Nat):Int)) (by omega) (by omega) (by omega),w16_succ,show 64-(j+1)=m by omega]
  ·dsimp only
   rw [geI (by omega),cF]
  generalize hW:(List.range 16).map (w4 B)=W
  have hWl:W.length=16:=by rw [← hW];simp
  refine bind_of (x:=iL (wAll B)) (loopM_at (fun j=>(((16+j:Nat):Int),iL (wMore j W++List.replicate (48-j) 0))) 48 rfl (fun j hj=>?_) ?_) ?_
  ·have hl:(wMore j W).length=16+j:=by rw [wMore_len,hWl]
   obtain ⟨m,hm⟩:∃ m,48-j=m+1:=⟨47-j,by omega⟩
   have hwn:wNext (wMore j W)=nextW ((wMore j W).getD j 0) ((wMore j W).getD (j+1) 0) ((wMore j W).getD (j+9) 0) ((wMore j W).getD (j+14) 0):=by
    unfold wNext
    rw [hl,show 16+j-16=j by omega,show 16+j-15=j+1 by omega,show 16+j-7=j+9 by omega,show 16+j-2=j+14 by omega]
   dsimp only
   rw [wMore_succ,hwn]
   generalize wMore j W=l at hl
   have A:∀ n:Nat,n<16+j→idxM (iL (l++List.replicate (48-j) 0)) (n:Int)=some ((l.getD n 0:Nat):Int):=fun n hn=>by
    rw [iL_idx (by rw [lA];omega),getD_app (by omega)]
   have C:∀ n:Nat,n<64→chkM (n:Int) ((nat_lit 64:Nat):Int)=some ():=fun n hn=>chkM_of (by omega) (by show (n:Int)<64;omega)
   rw [ltI (by omega),cT,wk (((16+j:Nat):Int)-15) (j:=((j+1:Nat):Int)) (by omega) (by omega) (by omega),C _ (by omega),oB,z01,A _ (by omega),oB,
    wk (((16+j:Nat):Int)-2) (j:=((j+14:Nat):Int)) (by omega) (by omega) (by omega),C _ (by omega),oB,z01,A _ (by omega),oB,
    wk (((16+j:Nat):Int)-16) (j:=((j:Nat):Int)) (by omega) (by omega) (by omega),C _ (by omega),oB,z01,A _ (by omega),oB]
   refine bind_of (mixed2 _ 7 18 (by omega) (by omega)) ?_
   refine bind_of (shrI _ 3 rfl (by decide)) ?_
   refine bind_of (x:=()) (by rw [wk (((16+j:Nat):Int)-7) (j:=((j+9:Nat):Int)) (by omega) (by omega) (by omega)];exact C _ (by omega)) ?_
   refine bind_of (x:=((l.getD (j+9) 0:Nat):Int)) (by rw [wk (((16+j:Nat):Int)-7) (j:=((j+9:Nat):Int)) (by omega) (by omega) (by omega),z01];exact A _ (by omega)) ?_
   refine bind_of (mixed2 _ 17 19 (by omega) (by omega)) ?_
   refine bind_of (shrI _ 10 rfl (by decide)) ?_
   refine bind_of (x:=()) (C _ (by omega)) ?_
   rw [xorI,addI,addI,xorI,addI,z01]
   refine bind_of (iL_set (16+j) rfl (by rw [lA,List.length_replicate];omega) (y:=nextW (l.getD j 0) (l.getD (j+1) 0) (l.getD (j+9) 0) (l.getD (j+14) 0)) (fun _=>rfl)) ?_
   rw [hm,set_next hl,wk (((16+j:Nat):Int)+1) (j:=((16+(j+1):Nat):Int)) (by omega) (by omega) (by omega),show 48-(j+1)=m by omega]
  ·dsimp only
   rw [geI (by omega),cF]
   show some (Sum.inr (iL (wMore 48 W++[])))=_
   rw [List.append_nil,← hW];rfl
  refine bind_of (x:=iL (rndsN B h 64)) (loopM_at (fun j=>((j:Int),iL (rndsN B h j))) 64 (by rw [nth8 hvl];rfl) (fun j hj=>?_) ?_) ?_
  ·have hk1:idxM (iL kSha) (j:Int)=some ((kSha.getD j 0:Nat):Int):=iL_idx hj
   have hk2:idxM (iL (wAll B)) (((nat_lit 0:Nat):Int)+(j:Int)*((nat_lit 1:Nat):Int))=some (((wAll B).getD j 0:Nat):Int):=by rw [z01];exact iL_idx (by rw [wAll_len];exact hj)
   dsimp only
   rw [rndsN_succ B h hj]
   obtain ⟨a,b,c,d,e,f,g,i,hv⟩:=eight (rndsN_len B hvl j)
   rw [hv,ltI (by omega),cT]
   generalize kSha.getD j 0=kk at hk1
   generalize (wAll B).getD j 0=ww at hk2
   refine bind_of hk1 ?_
   refine bind_of (x:=(a:Int)) rfl ?_
   refine bind_of (x:=(e:Int)) rfl ?_
   refine bind_of (x:=(i:Int)) rfl ?_
   refine bind_of (mixed3 e 6 11 25 (by omega) (by omega) (by omega)) ?_
   refine bind_of (x:=(f:Int)) rfl ?_
   refine bind_of (x:=(g:Int)) rfl ?_
   refine bind_of (x:=()) (chkM_of (by omega) (by show (j:Int)<64;omega)) ?_
   refine bind_of ((idx64 (by rw [iL_len,wAll_len])).trans hk2) ?_
   refine bind_of (mixed3 a 2 13 22 (by omega) (by omega) (by omega)) ?_
   refine bind_of (x:=(b:Int)) rfl ?_
   refine bind_of (x:=(c:Int)) rfl ?_
   refine bind_of (x:=(b:Int)) rfl ?_
   refine bind_of (x:=(c:Int)) rfl ?_
   refine bind_of (x:=(d:Int)) rfl ?_
   refine bind_of (x:=[((mW (tW e f g i kk ww+uW a b c):Nat):Int),(a:Int),b,c,d,e,f,g]) ?_ ?_
   ·rw [addI,andI,cplI,andI,xorI,addI,addI,addI,andI,andI,andI,xorI,xorI,addI,addI];rfl
   refine bind_of (x:=[((mW (tW e f g i kk ww+uW a b c):Nat):Int),(a:Int),b,c,((mW (d+tW e f g i kk ww):Nat):Int),e,f,g]) ?_ ?_
   ·rw [addI,andI,cplI,andI,xorI,addI,addI,addI,addI];rfl
   rw [wk ((j:Int)+1) (j:=((j+1:Nat):Int)) (by omega) (by omega) (by omega)]
   rfl
  ·dsimp only
   rw [geI (by omega),cF]
  refine bind_of (x:=iL (blk h B)) (loopM_at (fun j=>((j:Int),iL ((blk h B).take j++h.drop j))) 8 (by simp) (fun j hj=>?_) ?_) ?_
  ·have hr:=rndsN_len B hvl 64
   have e1:(blk h B).length=8:=blk_len hvl
   have e2:(blk h B)[j]'(by omega)=mW (h.getD j 0+(rndsN B h 64).getD j 0):=by
    simp only [blk_eq,List.getElem_zipWith]
    rw [List.getD_eq_getElem?_getD,List.getD_eq_getElem?_getD,gE (by omega),gE (by omega)];rfl
   have e3:h.drop j=h.getD j 0::h.drop (j+1):=by
    rw [List.drop_eq_getElem_cons (by omega),List.getD_eq_getElem?_getD,gE (by omega)];rfl
   have e4:((blk h B).take j).length=j:=by rw [lT];omega
   have C:chkM (j:Int) ((nat_lit 8:Nat):Int)=some ():=chkM_of (by omega) (by show (j:Int)<8;omega)
   dsimp only
   rw [ltI (by omega),cT]
   refine bind_of C ?_
   refine bind_of (x:=((h.getD j 0:Nat):Int)) (by
    rw [z01,iL_idx (by rw [lA,e4,e3];simp),List.getD_eq_getElem?_getD,xR (by omega),e4,Nat.sub_self,e3];rfl) ?_
   refine bind_of C ?_
   refine bind_of (x:=(((rndsN B h 64).getD j 0:Nat):Int)) (by rw [z01];exact iL_idx (by omega)) ?_
   refine bind_of C ?_
   refine bind_of (x:=iL (((blk h B).take j++h.drop j).set j (mW (h.getD j 0+(rndsN B h 64).getD j 0)))) (by
    rw [z01,addI];exact iL_set j rfl (by rw [lA,e4,e3];simp) (fun _=>rfl)) ?_
   rw [wk ((j:Int)+1) (j:=((j+1:Nat):Int)) (by omega) (by omega) (by omega),List.set_append_right _ _ (by omega),e4,Nat.sub_self,e3,List.set_cons_zero,List.take_add_one,gE (by omega),Option.toList_some,e2,aA]
   rfl
  ·dsimp only
   rw [geI (by omega),cF,tkL (by rw [blk_len hvl];omega),List.drop_of_length_le (by omega),List.append_nil]
  rw [wrap_in (by omega) (by omega),show ((64*k:Nat):Int)+64=((64*(k+1):Nat):Int) by omega]
 ·dsimp only
  rw [lenI,geI (by rw [iL_len];omega),cF]
 ·refine bind_of (digest_ok (blks_len n rfl)) ?_
  unfold sha
  rw [hb0,hn,show 64*n / 64=n by omega]
variable [EA]
set_option maxRecDepth 100000
theorem ext_ok {s:Bs} (hs:s.length≤900000):m58 s=some (iL (pad (s.map UInt8.toNat))):=by
 unfold m58
 generalize hb0:s.map UInt8.toNat=b0
 have hL:b0.length=s.length:=by rw [← hb0];simp
 refine bind_of (x:=iL b0) (loopM_at (fun k=>((k:Int),iL (b0.take k))) s.length (by simp) (fun k hk=>?_) ?_) ?_
 ·dsimp only
  have hk2:b0[k]? = some s[k].toNat:=by rw [← hb0,List.getElem?_map,gE hk];rfl
  rw [lenI,ltI (by omega),cT,byteM_of (gE hk),oB,app_iL rfl (by decide) (by rw [lT];omega),oB,wrap_in (by omega) (by omega),List.take_add_one,hk2]
  rfl
 ·dsimp only
  rw [lenI,geI (by omega),cF,tkL (by omega)]
 refine bind_of (x:=iL (b0++[128])) (app_iL rfl (by decide) (by omega)) ?_
 refine bind_of (x:=iL (b0++[128]++List.replicate (nZ b0.length) 0)) (loopM_at (fun k=>iL (b0++[128]++List.replicate k 0)) (nZ b0.length) (by simp) (fun k hk=>?_) ?_) ?_
 ·have hz:=nZ_le b0.length
  have hl:lenM (iL (b0++[128]++List.replicate k 0))=((b0.length+1+k:Nat):Int):=by rw [lenI];simp;omega
  have:=nZ_lt hk
  dsimp only
  rw [hl,show (64:Int)=((64:Nat):Int) from rfl,remM_nat' _ _ (by decide),oB,neI (by omega),notF,cT,app_iL (d:=0) (c:=nat_lit 1) (y:=0) rfl (by decide) (by simp;omega),oB,aA _ _ [0],List.replicate_succ']
 ·have hl:lenM (iL (b0++[128]++List.replicate (nZ b0.length) 0))=((b0.length+1+nZ b0.length:Nat):Int):=by rw [lenI];simp;omega
  have:=nZ_eq b0.length
  dsimp only
  rw [hl,show (64:Int)=((64:Nat):Int) from rfl,remM_nat' _ _ (by decide),oB,eqI (by omega),notT,cF]
 generalize hP:b0++[128]++List.replicate (nZ b0.length) 0=P
 have hPl:P.length=b0.length+1+nZ b0.length:=by rw [← hP];simp;omega
 have hz:=nZ_le b0.length
 refine bind_of (x:=iL (P++(List.range 8).map fun i=>shr (8*b0.length) (8*(7-i)) % 256)) (loopM_at (fun k=>((7:Int)-(k:Int),iL (P++(List.range k).map fun i=>shr (8*b0.length) (8*(7-i)) % 256))) 8 (by simp) (fun k hk=>?_) ?_) ?_
 ·dsimp only
  rw [leI (by omega),cT,lenI,← hL,wrap_in (n:=8*(b0.length:Int)) (by omega) (by omega),show 8*(b0.length:Int)=((8*b0.length:Nat):Int) by omega,wk (8*(7-(k:Int))) (j:=((8*(7-k):Nat):Int)) (by omega) (by omega) (by omega),shrI _ (8*(7-k)) rfl (by show _≤64;omega),oB,app_iL (y:=shr (8*b0.length) (8*(7-k)) % 256) (by rw [wu8];rfl) (by decide) (by simp;omega),oB,wrap_in (by omega) (by omega),List.range_succ,List.map_append,aA]
  rw [show (7:Int)-(k:Int)-1=7-((k+1:Nat):Int) by omega];rfl
 ·dsimp only
  rw [gtI (by omega),cF]
 have hQ:P++(List.range 8).map (fun i=>shr (8*b0.length) (8*(7-i)) % 256)=pad b0:=by rw [← hP];unfold pad;simp
 rw [hQ]
theorem iL_chk {l:List Nat} {j:Nat} (h:j<l.length):chkM (j:Int) (lenM (iL l))=some ():=chkM_of (by omega) (by rw [lenI,iL_len];omega)
theorem rblock_ok {h B:List Nat} (hvl:h.length=8) (hBl:B.length=64):m59 (iL h,iL B)=some (iL (blk h B)):=by
 unfold m59
 dsimp only
 refine bind_of (x:=iL ((List.range 16).map (w4 B))) (loopM_at (fun j=>((j:Int),iL ((List.range j).map (w4 B)))) 16 rfl (fun j hj=>?_) ?_) ?_
 ·dsimp only
  rw [ltI (by omega),cT]
  refine w4_ok hBl hj (f:=fun w=>(appM (nat_lit 4) (iL ((List.range j).map (w4 B))) [w]).bind fun r=>some (Sum.inl (IntKind.wrap .i64 ((j:Int)+1),r))) ?_
  dsimp only
  rw [app_iL rfl (by decide) (by simp;omega),oB,wk ((j:Int)+1) (j:=((j+1:Nat):Int)) (by omega) (by omega) (by omega),w16_succ]
 ·dsimp only
  rw [geI (by omega),cF]
 generalize hW:(List.range 16).map (w4 B)=W
 have hWl:W.length=16:=by rw [← hW];simp
 refine bind_of (x:=iL (wAll B)) (loopM_at (fun j=>(((16+j:Nat):Int),iL (wMore j W))) 48 rfl (fun j hj=>?_) ?_) ?_
 ·have hl:(wMore j W).length=16+j:=by rw [wMore_len,hWl]
  have hwn:wNext (wMore j W)=nextW ((wMore j W).getD j 0) ((wMore j W).getD (j+1) 0) ((wMore j W).getD (j+9) 0) ((wMore j W).getD (j+14) 0):=by
   unfold wNext
   rw [hl,show 16+j-16=j by omega,show 16+j-15=j+1 by omega,show 16+j-7=j+9 by omega,show 16+j-2=j+14 by omega]
  dsimp only
  rw [wMore_succ,hwn]
  generalize wMore j W=l at hl
  have A:∀ n:Nat,n<16+j→idxM (iL l) (n:Int)=some ((l.getD n 0:Nat):Int):=fun n hn=>iL_idx (by omega)
  have C:∀ n:Nat,n<16+j→chkM (n:Int) (lenM (iL l))=some ():=fun n hn=>iL_chk (by omega)
  have R:∀ x n:Nat,n<32→m87 ((x:Int),(n:Int))=some ((rot x n:Nat):Int):=rot_ok
  rw [ltI (by omega),cT,wk (((16+j:Nat):Int)-15) (j:=((j+1:Nat):Int)) (by omega) (by omega) (by omega),wk (((16+j:Nat):Int)-2) (j:=((j+14:Nat):Int)) (by omega) (by omega) (by omega),wk (((16+j:Nat):Int)-16) (j:=((j:Nat):Int)) (by omega) (by omega) (by omega),wk (((16+j:Nat):Int)-7) (j:=((j+9:Nat):Int)) (by omega) (by omega) (by omega)]
  refine bind_of (C _ (by omega)) ?_
  refine bind_of (A _ (by omega)) ?_
  refine bind_of (R _ 7 (by omega)) ?_
  refine bind_of (C _ (by omega)) ?_
  refine bind_of (A _ (by omega)) ?_
  refine bind_of (R _ 18 (by omega)) ?_
  refine bind_of (C _ (by omega)) ?_
  refine bind_of (A _ (by omega)) ?_
  refine bind_of (shrI _ 3 rfl (by decide)) ?_
  refine bind_of (C _ (by omega)) ?_
  refine bind_of (A _ (by omega)) ?_
  refine bind_of (R _ 17 (by omega)) ?_
  refine bind_of (C _ (by omega)) ?_
  refine bind_of (A _ (by omega)) ?_
  refine bind_of (R _ 19 (by omega)) ?_
  refine bind_of (C _ (by omega)) ?_
  refine bind_of (A _ (by omega)) ?_
  refine bind_of (shrI _ 10 rfl (by decide)) ?_
  refine bind_of (C _ (by omega)) ?_
  refine bind_of (A _ (by omega)) ?_
  refine bind_of (C _ (by omega)) ?_
  refine bind_of (A _ (by omega)) ?_
  rw [xorI,xorI,addI,addI,xorI,xorI,addI]
  refine bind_of (app_iL (y:=nextW (l.getD j 0) (l.getD (j+1) 0) (l.getD (j+9) 0) (l.getD (j+14) 0)) rfl (by decide) (by omega)) ?_
  rw [wk (((16+j:Nat):Int)+1) (j:=((16+(j+1):Nat):Int)) (by omega) (by omega) (by omega)]
 ·dsimp only
  rw [geI (by omega),cF,← hW];rfl
 refine bind_of (x:=iL kSha) rfl ?_
 refine bind_of (x:=iL h) (by rw [appM_of (by rw [iL_len];simp;omega)];rfl) ?_
 refine bind_of (x:=iL (rndsN B h 64)) (loopM_at (fun j=>(iL (rndsN B h j),(j:Int))) 64 rfl (fun j hj=>?_) ?_) ?_
 ·have hk1:idxM (iL kSha) (j:Int)=some ((kSha.getD j 0:Nat):Int):=iL_idx hj
  have hk2:idxM (iL (wAll B)) (j:Int)=some (((wAll B).getD j 0:Nat):Int):=iL_idx (by rw [wAll_len];exact hj)
  have hk3:chkM (j:Int) (lenM (iL (wAll B)))=some ():=iL_chk (by rw [wAll_len];exact hj)
  dsimp only
  rw [rndsN_succ B h hj]
  obtain ⟨a,b,c,d,e,f,g,i,hv⟩:=eight (rndsN_len B hvl j)
  rw [hv,ltI (by omega),cT]
  generalize kSha.getD j 0=kk at hk1
  generalize (wAll B).getD j 0=ww at hk2
  refine bind_of (x:=(a:Int)) rfl ?_
  refine bind_of (x:=(e:Int)) rfl ?_
  refine bind_of (x:=(i:Int)) rfl ?_
  refine bind_of (rot_ok e 6 (by omega)) ?_
  refine bind_of (rot_ok e 11 (by omega)) ?_
  refine bind_of (rot_ok e 25 (by omega)) ?_
  refine bind_of (x:=(f:Int)) rfl ?_
  refine bind_of (x:=(g:Int)) rfl ?_
  refine bind_of hk1 ?_
  refine bind_of hk3 ?_
  refine bind_of hk2 ?_
  refine bind_of (rot_ok a 2 (by omega)) ?_
  refine bind_of (rot_ok a 13 (by omega)) ?_
  refine bind_of (rot_ok a 22 (by omega)) ?_
  refine bind_of (x:=(b:Int)) rfl ?_
  refine bind_of (x:=(c:Int)) rfl ?_
  refine bind_of (x:=(b:Int)) rfl ?_
  refine bind_of (x:=(c:Int)) rfl ?_
  refine bind_of (x:=(b:Int)) rfl ?_
  refine bind_of (x:=(c:Int)) rfl ?_
  refine bind_of (x:=(d:Int)) rfl ?_
  refine bind_of (x:=(f:Int)) rfl ?_
  refine bind_of (x:=(g:Int)) rfl ?_
  rw [xorI,xorI,addI,andI,cplI,andI,xorI,addI,addI,addI,xorI,xorI,andI,andI,andI,xorI,xorI,addI,addI,addI,wk ((j:Int)+1) (j:=((j+1:Nat):Int)) (by omega) (by omega) (by omega)]
  rfl
 ·dsimp only
  rw [geI (by omega),cF]
 have hr:=rndsN_len B hvl 64
 have e1:(blk h B).length=8:=blk_len hvl
 refine bind_of (x:=iL (blk h B)) (loopM_at (fun j=>((j:Int),iL ((blk h B).take j))) 8 (by simp) (fun j hj=>?_) ?_) rfl
 ·have e2:(blk h B)[j]'(by omega)=mW (h.getD j 0+(rndsN B h 64).getD j 0):=by
   simp only [blk_eq,List.getElem_zipWith]
   rw [List.getD_eq_getElem?_getD,List.getD_eq_getElem?_getD,gE (by omega),gE (by omega)];rfl
  dsimp only
  rw [ltI (by omega),cT,iL_idx (by omega),oB,iL_idx (by omega),oB,addI,app_iL rfl (by decide) (by rw [lT];omega),oB,wk ((j:Int)+1) (j:=((j+1:Nat):Int)) (by omega) (by omega) (by omega),List.take_add_one,gE (by omega),Option.toList_some,e2]
 ·dsimp only
  rw [geI (by omega),cF,tkL (by omega)]
theorem rSum_ok {s:Bs} (hs:s.length≤900000):m28 s=some (sha s):=by
 unfold m28
 refine bind_of (ext_ok hs) ?_
 have hL:(s.map UInt8.toNat).length=s.length:=by simp
 unfold sha
 generalize s.map UInt8.toNat=b0 at hL
 have hz:=nZ_le b0.length
 have hQl:=pad_len b0
 obtain ⟨n,hn⟩:∃ n,(pad b0).length=64*n:=⟨(pad b0).length / 64,by have:=nZ_eq b0.length;omega⟩
 refine bind_of (x:=iL (blks n hSha (pad b0))) (loopM_at (fun k=>(iL (blks k hSha (pad b0)),((64*k:Nat):Int))) n rfl (fun k hk=>?_) ?_) ?_
 ·have hkl:64*k+64≤(pad b0).length:=by omega
  have hBl:(((pad b0).drop (64*k)).take 64).length=64:=by rw [lT,List.length_drop];omega
  dsimp only
  rw [lenI,iL_len,ltI (by omega),cT,blks_succ,wrap_in (n:=((64*k:Nat):Int)+64) (by omega) (by omega),iL_slice (64*k) (64*k+64) rfl (by omega) (by omega) hkl,oB,show 64*k+64-64*k=64 by omega,rblock_ok (blks_len k rfl) hBl,oB,show ((64*k:Nat):Int)+64=((64*(k+1):Nat):Int) by omega]
 ·dsimp only
  rw [lenI,iL_len,geI (by omega),cF]
 have h8:(blks n hSha (pad b0)).length=8:=blks_len n rfl
 rw [hn,show 64*n / 64=n by omega]
 generalize blks n hSha (pad b0)=h at h8
 let B:Nat→List Nat:=fun x=>[shr x 24 % 256,shr x 16 % 256,shr x 8 % 256,x % 256]
 have hB:∀ l:List Nat,(l.flatMap B).length=4*l.length:=fun l=>by
  induction l with
  | nil=>rfl
  | cons a l ih=>rw [List.flatMap_cons,lA,ih];simp [B];omega
 refine bind_of (x:=iL (h.flatMap B)) (loopM_at (fun j=>((j:Int),iL ((h.take j).flatMap B))) 8 (by simp) (fun j hj=>?_) ?_) ?_
 ·have hl:((h.take j).flatMap B).length=4*j:=by rw [hB,lT];omega
  have A:idxM (iL h) (j:Int)=some ((h.getD j 0:Nat):Int):=iL_idx (by omega)
  dsimp only
  rw [ltI (by omega),cT]
  refine bind_of A ?_
  refine bind_of (shrI _ 24 rfl (by decide)) ?_
  refine bind_of A ?_
  refine bind_of (shrI _ 16 rfl (by decide)) ?_
  refine bind_of A ?_
  refine bind_of (shrI _ 8 rfl (by decide)) ?_
  refine bind_of A ?_
  refine bind_of (x:=iL ((h.take (j+1)).flatMap B)) ?_ (by rw [wk ((j:Int)+1) (j:=((j+1:Nat):Int)) (by omega) (by omega) (by omega)])
  rw [appM_of (by rw [iL_len,hl];show (4*j+4)*1≤_;omega),List.take_add_one,gE (show j<h.length by omega),Option.toList_some,List.flatMap_append,wu8,wu8,wu8,wu8,show h[j]'(by omega)=h.getD j 0 by rw [List.getD_eq_getElem?_getD,gE (by omega)];rfl]
  unfold iL
  rw [List.map_append]
  rfl
 ·dsimp only
  rw [geI (by omega),cF,tkL (by omega)]
 ·show some (strB (iL (h.flatMap B)))=_
  unfold strB wBytes iL
  rw [List.map_map]
  congr 1
  rw [List.map_flatMap]
  congr 1
  funext x
  simp [B,ofNat_mod]
variable [EA]
theorem pow128 (i:Nat):128 ^ i=2 ^ (7*i):=by rw [Nat.pow_mul]
theorem take_snoc {s:Bs} {p i:Nat} {b:UInt8} (h:s[p+i]? = some b):(s.drop p).take (i+1)=(s.drop p).take i++[b]:=by
 rw [List.take_add_one,List.getElem?_drop,h];rfl
theorem sub_len {s:Bs} {p i:Nat} (h:p+i≤s.length):((s.drop p).take i).length=i:=by rw [lT,List.length_drop];omega
theorem pre_take (t:Bs) (i:Nat):t.take i <+: t:=List.take_prefix _ _
theorem grp_add {i:Nat} (hi:i<9) {z:Nat} (hz:z<128 ^ i) {d:Nat} (hd:d<128):z+d*128 ^ i<9223372036854775808:=by
 have h1:(d+1)*128 ^ i≤128*128 ^ i:=Nat.mul_le_mul_right _ (by omega)
 have h2:128*128 ^ i=128 ^ (i+1):=by rw [Nat.pow_succ,Nat.mul_comm]
 have h3:128 ^ (i+1)≤128 ^ 9:=Nat.pow_le_pow_right (by omega) (by omega)
 have h4:(128:Nat) ^ 9=9223372036854775808:=by decide
 rw [Nat.add_mul] at h1
 omega
theorem xorNeg (m:Nat) (hm:m<4611686018427387904) (o:Nat) (ho:o<2):bitM .xor .i64 (m:Int) (IntKind.wrap .i64 (negM (o:Int)))=if o=0 then (m:Int) else -(m:Int)-1:=by
 unfold negM
 rw [wrap_in (by omega) (by omega)]
 unfold bitM
 dsimp only
 have b1:(BitVec.ofInt IntKind.i64.bits (m:Int)).toNat=m % 18446744073709551616:=by rw [BitVec.ofInt_natCast];rfl
 rw [BitVec.toNat_xor,b1,Nat.mod_eq_of_lt (by omega)]
 by_cases h:o=0
 ·subst h
  rw [if_pos rfl,show (BitVec.ofInt IntKind.i64.bits (-((0:Nat):Int))).toNat=0 from rfl,Nat.xor_zero,wrap_in (by omega) (by omega)]
 ·have:o=1:=by omega
  subst this
  rw [if_neg (by omega),show (BitVec.ofInt IntKind.i64.bits (-((1:Nat):Int))).toNat=18446744073709551615 from rfl,xorAll64 (by omega),IntKind.wrap_i64]
  omega
theorem uz_eq (z:Nat):(if z % 2=0 then ((z / 2:Nat):Int) else -((z / 2:Nat):Int)-1)=uz z:=rfl
theorem wInt_ok {s:Bs} {p:Nat} (hp:p≤s.length) (hs:s.length≤1000000):Ans (m113 (s,(p:Int))) (IntR s p):=by
 unfold m113
 dsimp only
 rw [lenI,geI (by omega),geI (by omega),orF,cF]
 refine Ans.bind (P:=fun (o:Unit⊕Int×Int×Int)=>(o=.inl ()∧∀ n k,¬ IsI (s.drop p) n k)∨∃ r,o=.inr r∧IntR s p r) ?_ fun o ho=>?_
 ·refine Ans.loop (fun i z=>z=((gv ((s.drop p).take i):Int),(i:Int))∧i≤9∧p+i≤s.length∧∀ x∈(s.drop p).take i,128≤x.toNat) 9 ⟨by simp [gv],by omega,by omega,fun x hx=>by simp at hx⟩ ?_
  rintro i z hi ⟨rfl,h1,h2,h3⟩
  dsimp only
  by_cases h9:i=9
  ·rw [geI (by omega),cF]
   exact Ans.some (.inl ⟨rfl,isI_none h3 (.inl h9)⟩)
  rw [ltI (by omega),cT,wrap_in (n:=(p:Int)+(i:Int)) (by omega) (by omega),show (p:Int)+(i:Int)=((p+i:Nat):Int) by omega]
  by_cases hl:p+i<s.length
  ·obtain ⟨b,hb⟩:∃ b,s[p+i]? = some b:=⟨_,gE hl⟩
   have hbl:=u8lt b
   have hz:=gv_lt ((s.drop p).take i)
   rw [sub_len (by omega)] at hz
   have hlen:=sub_len (s:=s) (p:=p) (i:=i) (by omega)
   have hsn:=take_snoc hb
   have hadd:=grp_add (i:=i) (by omega) hz (show b.toNat % 128<128 by omega)
   have hgv:gv ((s.drop p).take (i+1))=gv ((s.drop p).take i)+b.toNat % 128*128 ^ i:=by rw [hsn,gv_snoc,hlen]
   have hlt2:b.toNat % 128*128 ^ i<9223372036854775808:=by omega
   rw [gtI (by omega),cF,byteM_of hb,oB,show (127:Int)=((127:Nat):Int) from rfl,and8 (by omega) (by omega),and127,wu64_in (n:=((b.toNat % 128:Nat):Int)) (by omega) (by omega),wrap_in (n:=7*(i:Int)) (by omega) (by omega),show 7*(i:Int)=((7*i:Nat):Int) by omega,shlM_of (k:=.u64) (by show 7*i≤64;omega),oB]
   have e1:IntKind.wrap .u64 (((b.toNat % 128:Nat):Int)*2 ^ (7*i))=((b.toNat % 128*128 ^ i:Nat):Int):=by
    rw [pow128,show (((b.toNat % 128:Nat):Int)*2 ^ (7*i))=((b.toNat % 128*2 ^ (7*i):Nat):Int) by rw [Int.natCast_mul,Int.natCast_pow];rfl]
    rw [pow128] at hlt2
    exact wu64_in (by omega) (by omega)
   have e2:bitM .or .u64 (gv ((s.drop p).take i):Int) ((b.toNat % 128*128 ^ i:Nat):Int)=(gv ((s.drop p).take (i+1)):Int):=by
    rw [or64 (by omega) (by omega),hgv,Nat.or_comm,pow128]
    rw [pow128] at hz
    have:=Nat.two_pow_add_eq_or_of_lt hz (b.toNat % 128)
    rw [Nat.mul_comm,← this,Nat.add_comm]
   rw [e1,e2]
   by_cases hc:128≤b.toNat
   ·rw [leI (by omega),cT,wrap_in (n:=(i:Int)+1) (by omega) (by omega)]
    refine Ans.some ⟨by omega,rfl,by omega,by omega,fun x hx=>?_⟩
    rw [hsn] at hx
    rcases List.mem_append.1 hx with q | q
    ·exact h3 x q
    ·rw [List.mem_singleton.1 q];exact hc
   ·have hsh:Sh ((s.drop p).take (i+1)) ((s.drop p).take i) b:=⟨hsn,h3,by omega⟩
    have hcan:=fun n k=>isI_canon (n:=n) (k:=k) hsh (pre_take _ _)
    have hZ:gv ((s.drop p).take (i+1))<9223372036854775808:=by rw [hgv];exact hadd
    have hlen1:((s.drop p).take (i+1)).length=i+1:=sub_len (by omega)
    have hc0:(s.drop p).take i=[]↔i=0:=by rw [← List.length_eq_zero_iff,hlen]
    generalize gv ((s.drop p).take (i+1))=Z at hcan hZ
    rw [gtI (by omega),cF,shrI (n:=1) (k:=.u64) Z 1 rfl (by decide),oB,show (1:Int)=((1:Nat):Int) from rfl,and64 (by omega) (by omega),and1,wrap_in (n:=((shr Z 1:Nat):Int)) (by show _≤((Z / 2:Nat):Int);omega) (by show ((Z / 2:Nat):Int)≤_;omega),wrap_in (n:=((Z % 2:Nat):Int)) (by omega) (by omega),show shr Z 1=Z / 2 from rfl,xorNeg (Z / 2) (by omega) (Z % 2) (by omega),uz_eq]
    have hub:uz Z≤4611686018427387903:=by unfold uz;split<;>omega
    by_cases hbad:(b.toNat=0∧0<i)∨uz Z < -4611686018427387903
    ·have:PE.orM (PE.andM (eqM (b.toNat:Int) 0) (ltM 0 (i:Int))) (ltM (uz Z) (-4611686018427387903))=true:=by
      unfold PE.orM PE.andM eqM ltM
      rw [← Bool.decide_and,← Bool.decide_or]
      exact dT (by omega)
     rw [this,cT]
     refine Ans.some (.inl ⟨rfl,fun n k h=>?_⟩)
     obtain ⟨g1,g2,g3,g4⟩:=(hcan n k).1 h
     rw [hc0] at g3
     unfold inR at g1
     omega
    ·have:PE.orM (PE.andM (eqM (b.toNat:Int) 0) (ltM 0 (i:Int))) (ltM (uz Z) (-4611686018427387903))=false:=by
      unfold PE.orM PE.andM eqM ltM
      rw [← Bool.decide_and,← Bool.decide_or]
      exact dF (by omega)
     rw [this,cF]
     have hin:IsI (s.drop p) (uz Z) (i+1):=(hcan _ _).2 ⟨by unfold inR;omega,rfl,by rw [hc0];omega,hlen1.symm⟩
     refine Ans.some (.inr ⟨_,rfl,fun n k h=>?_,fun h=>absurd hin (h _ _)⟩)
     obtain ⟨q1,q2⟩:=h.uniq hin
     rw [q1,q2,wrap_in (by omega) (by omega)]
     congr 1
  ·rw [leI (by omega),cT]
   exact Ans.some (.inl ⟨rfl,isI_none h3 (.inr (by rw [List.length_drop];omega))⟩)
 ·rcases ho with ⟨rfl,h⟩ | ⟨r,rfl,h⟩
  ·exact Ans.some ⟨fun n k q=>absurd q (h n k),fun _=>rfl⟩
  ·exact Ans.some h
theorem isS_of {t:Bs} {n:Int} {k:Nat} (h:IsI t n k) (h0:0≤n) (h1:n≤65536) (h2:k+n.toNat≤t.length):IsS t ((t.drop k).take n.toNat) (k+n.toNat):=by
 obtain ⟨hk,e⟩:=h.le
 obtain ⟨_,rfl,_⟩:=h
 have hl:((t.drop (pI n).length).take n.toNat).length=n.toNat:=by rw [lT,List.length_drop];omega
 have hl2:((((t.drop (pI n).length).take n.toNat).length:Nat):Int)=n:=by rw [hl];omega
 refine ⟨by omega,?_,?_⟩
 ·unfold pS
  rw [lA,hl2,hl]
 ·unfold pS
  rw [hl2]
  conv=>rhs;rw [e]
  exact List.prefix_append_right_inj _ |>.2 (List.take_prefix _ _)
theorem isI_of {t u:Bs} {k:Nat} (h:IsS t u k):IsI t u.length (k-u.length)∧u.length≤k∧(t.drop (k-u.length)).take u.length=u∧k≤t.length:=by
 obtain ⟨hk,e⟩:=h.le
 obtain ⟨h1,rfl,h3⟩:=h
 have hl:(pS u).length-u.length=(pI u.length).length:=by unfold pS;rw [lA];omega
 rw [hl]
 refine ⟨⟨inR_len h1,rfl,?_⟩,by unfold pS;rw [lA];omega,?_,hk⟩
 ·obtain ⟨x,hx⟩:=h3
  exact ⟨u++x,by rw [← hx];unfold pS;rw [aA]⟩
 ·rw [e]
  unfold pS
  rw [aA,List.drop_left,List.take_left]
theorem str_ok {s:Bs} {p:Nat} (hp:p≤s.length) (hs:s.length≤1000000) {r:Int×Int×Int} (hr:IntR s p r) :
  Ans (bif PE.notM (eqM r.2.2 0) then some ([],0,r.2.2) else bif PE.orM (PE.orM (ltM r.1 0) (ltM 65536 r.1)) (ltM (IntKind.wrap .i64 (lenM s-r.2.1)) r.1) then some ([],0,10) else (sliceM s r.2.1 (IntKind.wrap .i64 (r.2.1+r.1))).bind fun r_1=>some (r_1,IntKind.wrap .i64 (r.2.1+r.1),0)) (StrR s p):=by
 rcases hr.cases with ⟨n,k,h,rfl⟩ | ⟨h,rfl⟩
 ·dsimp only
  have hk:=h.le.1
  have hn:=h.1
  unfold inR at hn
  rw [List.length_drop] at hk
  rw [eqI rfl,notT,cF,lenI,wrap_in (n:=(s.length:Int)-((p+k:Nat):Int)) (by omega) (by omega)]
  by_cases hb:(n<0∨65536<n)∨(s.length:Int)-((p+k:Nat):Int)<n
  ·have:PE.orM (PE.orM (ltM n 0) (ltM 65536 n)) (ltM ((s.length:Int)-((p+k:Nat):Int)) n)=true:=by
    unfold PE.orM ltM
    rw [← Bool.decide_or,← Bool.decide_or];exact dT hb
   rw [this,cT]
   refine Ans.some ⟨fun u j g=>?_,fun _=>rfl⟩
   obtain ⟨g1,g2,g3,g4⟩:=isI_of g
   obtain ⟨q1,q2⟩:=g1.uniq h
   have:=g.1
   rw [List.length_drop] at g4
   omega
  ·have:PE.orM (PE.orM (ltM n 0) (ltM 65536 n)) (ltM ((s.length:Int)-((p+k:Nat):Int)) n)=false:=by
    unfold PE.orM ltM
    rw [← Bool.decide_or,← Bool.decide_or];exact dF hb
   have hS:=isS_of h (by omega) (by omega) (by rw [List.length_drop];omega)
   rw [this,cF,wrap_in (by omega) (by omega),sliceM_of (by omega) (by omega) (by omega),oB]
   have e:((s.take (((p+k:Nat):Int)+n).toNat).drop ((p+k:Nat):Int).toNat)=((s.drop p).drop k).take n.toNat:=by
    rw [List.drop_take,List.drop_drop,show (((p+k:Nat):Int)+n).toNat-((p+k:Nat):Int).toNat=n.toNat by omega,Int.toNat_natCast]
   rw [e]
   refine Ans.some ⟨fun u j g=>?_,fun g=>absurd hS (g _ _)⟩
   obtain ⟨q1,q2⟩:=g.uniq hS
   rw [q1,q2]
   congr 2
   omega
 ·dsimp only
  rw [neI (by decide),notF,cT]
  refine Ans.some ⟨fun u j g=>absurd (isI_of g).1 (h _ _),fun _=>rfl⟩
theorem wStr_ok {s:Bs} {p:Nat} (hp:p≤s.length) (hs:s.length≤1000000):Ans (m101 (s,(p:Int))) (StrR s p):=by
 unfold m101
 dsimp only
 exact Ans.bind (wInt_ok hp hs) fun r hr=>str_ok hp hs hr
variable [EA]
theorem uz_div {Z:Nat} (h:Z<9223372036854775808) {β:Type} (f:Int→Option β):((remM (Z:Int) 2).bind fun r=>bif eqM r 1 then some (IntKind.wrap .i64 (IntKind.wrap .i64 (negM (IntKind.wrap .i64 ((Z / 2:Nat):Int)))-1)) else some (IntKind.wrap .i64 ((Z / 2:Nat):Int))).bind f=f (uz Z):=by
 rw [show (2:Int)=((2:Nat):Int) from rfl,remM_nat _ _ (by decide),oB]
 unfold negM uz
 rw [wrap_in (n:=((Z / 2:Nat):Int)) (by omega) (by omega),wrap_in (n:=-((Z / 2:Nat):Int)) (by omega) (by omega),wrap_in (n:=-((Z / 2:Nat):Int)-1) (by omega) (by omega)]
 by_cases e:Z % 2=0
 ·rw [neI (by omega),cF,oB,if_pos e]
 ·rw [eqI (by omega),cT,oB,if_neg e]
theorem rInt_ok {s:Bs} {p:Nat} (hp:p≤s.length) (hs:s.length≤1000000):Ans (m97 (s,(p:Int))) (IntR s p):=by
 unfold m97
 dsimp only
 rw [lenI,geI (by omega),geI (by omega),orF,cF]
 refine Ans.bind (P:=fun (o:Unit⊕Int×Int×Int)=>(o=.inl ()∧∀ n k,¬ IsI (s.drop p) n k)∨∃ r,o=.inr r∧IntR s p r) ?_ fun o ho=>?_
 ·refine Ans.loop (fun i z=>z=((gv ((s.drop p).take i):Int),(i:Int))∧i≤9∧p+i≤s.length∧∀ x∈(s.drop p).take i,128≤x.toNat) 9 ⟨by simp [gv],by omega,by omega,fun x hx=>by simp at hx⟩ ?_
  rintro i z hi ⟨rfl,h1,h2,h3⟩
  dsimp only
  by_cases h9:i=9
  ·rw [geI (by omega),andF,cF]
   exact Ans.some (.inl ⟨rfl,isI_none h3 (.inl h9)⟩)
  rw [ltI (by omega),andT,wrap_in (n:=(p:Int)+(i:Int)) (by omega) (by omega),show (p:Int)+(i:Int)=((p+i:Nat):Int) by omega]
  by_cases hl:p+i<s.length
  ·obtain ⟨b,hb⟩:∃ b,s[p+i]? = some b:=⟨_,gE hl⟩
   have hbl:=u8lt b
   have hz:=gv_lt ((s.drop p).take i)
   rw [sub_len (by omega)] at hz
   have hlen:=sub_len (s:=s) (p:=p) (i:=i) (by omega)
   have hsn:=take_snoc hb
   have hadd:=grp_add (i:=i) (by omega) hz (show b.toNat % 128<128 by omega)
   have hgv:gv ((s.drop p).take (i+1))=gv ((s.drop p).take i)+b.toNat % 128*128 ^ i:=by rw [hsn,gv_snoc,hlen]
   have hlt2:b.toNat % 128*128 ^ i<9223372036854775808:=by omega
   rw [ltI (by omega),cT,byteM_of hb,oB,wu64_in (n:=(b.toNat:Int)) (by omega) (by omega),show (128:Int)=((128:Nat):Int) from rfl,remM_nat _ _ (by decide),oB,wrap_in (n:=7*(i:Int)) (by omega) (by omega),show 7*(i:Int)=((7*i:Nat):Int) by omega,shlM_of (k:=.u64) (by show 7*i≤64;omega),oB]
   have e1:IntKind.wrap .u64 (((b.toNat % 128:Nat):Int)*2 ^ (7*i))=((b.toNat % 128*128 ^ i:Nat):Int):=by
    rw [pow128,show (((b.toNat % 128:Nat):Int)*2 ^ (7*i))=((b.toNat % 128*2 ^ (7*i):Nat):Int) by rw [Int.natCast_mul,Int.natCast_pow];rfl]
    rw [pow128] at hlt2
    exact wu64_in (by omega) (by omega)
   have e2:IntKind.wrap .u64 ((gv ((s.drop p).take i):Int)+((b.toNat % 128*128 ^ i:Nat):Int))=(gv ((s.drop p).take (i+1)):Int):=by
    rw [hgv,Int.natCast_add]
    exact wu64_in (by omega) (by omega)
   rw [e1,e2]
   by_cases hc:128≤b.toNat
   ·rw [leI (by omega),cT,wrap_in (n:=(i:Int)+1) (by omega) (by omega)]
    refine Ans.some ⟨by omega,rfl,by omega,by omega,fun x hx=>?_⟩
    rw [hsn] at hx
    rcases List.mem_append.1 hx with q | q
    ·exact h3 x q
    ·rw [List.mem_singleton.1 q];exact hc
   ·have hsh:Sh ((s.drop p).take (i+1)) ((s.drop p).take i) b:=⟨hsn,h3,by omega⟩
    have hcan:=fun n k=>isI_sh (n:=n) (k:=k) hsh (pre_take _ _)
    have hcan2:=fun n k=>isI_canon (n:=n) (k:=k) hsh (pre_take _ _)
    have hZ:gv ((s.drop p).take (i+1))<9223372036854775808:=by rw [hgv];exact hadd
    have hlen1:((s.drop p).take (i+1)).length=i+1:=sub_len (by omega)
    have hsl:sliceM s (p:Int) ((p+i+1:Nat):Int)=some ((s.drop p).take (i+1)):=by
     rw [sliceM_of (by omega) (by omega) (by omega),Int.toNat_natCast,Int.toNat_natCast,List.drop_take,show p+i+1-p=i+1 by omega]
    generalize gv ((s.drop p).take (i+1))=Z at hcan2 hZ
    rw [gtI (by omega),cF,show (2:Int)=((2:Nat):Int) from rfl,divM_nat _ _ (by decide),oB,wu64_in (n:=((Z / 2:Nat):Int)) (by omega) (by omega),show ((2:Nat):Int)=(2:Int) from rfl,uz_div hZ,wrap_in (n:=((p+i:Nat):Int)+1) (by omega) (by omega),show ((p+i:Nat):Int)+1=((p+i+1:Nat):Int) by omega]
    by_cases hin:inR (uz Z)
    ·rw [rPut_ok hin,oB]
     dsimp only
     rw [eqI rfl,notT,notF,cT,hsl,oB,orF]
     by_cases hq:pI (uz Z)=(s.drop p).take (i+1)
     ·rw [eqsT hq,notT,cF]
      have hI:IsI (s.drop p) (uz Z) (i+1):=(hcan _ _).2 ⟨hin,hq,hlen1.symm⟩
      refine Ans.some (.inr ⟨_,rfl,fun n k h=>?_,fun h=>absurd hI (h _ _)⟩)
      obtain ⟨q1,q2⟩:=h.uniq hI
      rw [q1,q2];rfl
     ·rw [eqsF hq,notF,cT]
      refine Ans.some (.inr ⟨_,rfl,fun n k h=>?_,fun _=>rfl⟩)
      have g1:=(hcan n k).1 h
      have g2:=(hcan2 n k).1 h
      exact absurd (g2.2.1▸g1.2.1) hq
    ·have hp2:m56 (uz Z)=some ([],10):=by
      unfold m56
      try dsimp only
      rw [not_inR hin,cT]
     rw [hp2,oB]
     dsimp only
     rw [neI (by decide),notF,notT,cF,oB,orT,cT]
     refine Ans.some (.inr ⟨_,rfl,fun n k h=>?_,fun _=>rfl⟩)
     have g2:=(hcan2 n k).1 h
     exact absurd (g2.2.1▸g2.1) hin
  ·rw [geI (by omega),cF]
   exact Ans.some (.inl ⟨rfl,isI_none h3 (.inr (by rw [List.length_drop];omega))⟩)
 ·rcases ho with ⟨rfl,h⟩ | ⟨r,rfl,h⟩
  ·exact Ans.some ⟨fun n k q=>absurd q (h n k),fun _=>rfl⟩
  ·exact Ans.some h
theorem rStr_ok {s:Bs} {p:Nat} (hp:p≤s.length) (hs:s.length≤1000000):Ans (m75 (s,(p:Int))) (StrR s p):=by
 unfold m75
 dsimp only
 exact Ans.bind (rInt_ok hp hs) fun r hr=>str_ok hp hs hr
end Go.Proofs.YtobfnefajpiakaaGreatDoor
namespace Go.Ar
def h0:Bs:=List.replicate 32 0
def sto (h r:Bs):Bs:=1::(pS r++chain h r)
def hd (h:Bs) (l:List Bs):Bs:=l.foldl chain h
def enc:Bs→List Bs→Bs
 | _,[]=>[]
 | h,r::l=>sto h r++enc (chain h r) l
def OkL (l:List Bs):Prop:=∀ r∈l,r.length≤65536
theorem chain_len (h r:Bs):(chain h r).length=32:=sha_len _
theorem h0_len:h0.length=32:=by decide
theorem hd_len {h:Bs} (hh:h.length=32):∀ l:List Bs,(hd h l).length=32
 | []=>hh
 | r::l=>hd_len (chain_len h r) l
theorem hd_app (h:Bs) (l m:List Bs):hd h (l++m)=hd (hd h l) m:=List.foldl_append
theorem hd_snoc (h:Bs) (l:List Bs) (r:Bs):hd h (l++[r])=chain (hd h l) r:=hd_app h l [r]
theorem enc_app:∀ (h:Bs) (l m:List Bs),enc h (l++m)=enc h l++enc (hd h l) m
 | _,[],_=>rfl
 | h,r::l,m=>by
  show sto h r++enc (chain h r) (l++m)=(sto h r++enc (chain h r) l)++enc (hd (chain h r) l) m
  rw [enc_app,aA]
theorem enc_snoc (h:Bs) (l:List Bs) (r:Bs):enc h (l++[r])=enc h l++sto (hd h l) r:=by
 rw [enc_app]
 show _++(sto (hd h l) r++[])=_
 rw [List.append_nil]
theorem sto_len (h r:Bs):(sto h r).length=(pS r).length+33:=by
 unfold sto
 rw [List.length_cons,lA,chain_len]
theorem enc_nil {h:Bs} {l:List Bs}:enc h l=[]↔l=[]:=by
 cases l with
 | nil=>exact ⟨fun _=>rfl,fun _=>rfl⟩
 | cons r l=>exact ⟨fun e=>by have:=congrArg List.length e;simp [enc,sto_len] at this,fun e=>by cases e⟩
theorem enc_head {h:Bs}:∀ {l:List Bs},l≠[]→∃ t,enc h l=1::t
 | [],e=>absurd rfl e
 | r::l,_=>⟨_,rfl⟩
def Stop (z:Bs):Prop:=∀ b,z.head? = some b→b=0
def Bad (h z:Bs):Prop:=(∃ b,z.head? = some b∧b≠0)∧∀ r:Bs,r.length≤65536→¬ sto h r <+: z
theorem Stop.bad {h z:Bs} (s:Stop z) (b:Bad h z):False:=by
 obtain ⟨⟨c,h1,h2⟩,_⟩:=b
 exact h2 (s c h1)
theorem stop_sto {h r z:Bs} (s:Stop (sto h r++z)):False:=by
 have:=s 1 rfl
 cases this
theorem sto_pre {h a b x y:Bs} (e:sto h a++x=sto h b++y):a=b∧x=y:=by
 unfold sto at e
 simp only [List.cons_append,aA,List.cons.injEq,true_and] at e
 obtain ⟨h1,h2⟩:=pS_pre e
 subst h1
 exact ⟨rfl,List.append_cancel_left h2⟩
theorem enc_uniq:∀ {h:Bs} {l l':List Bs} {z z':Bs},OkL l→OkL l'→enc h l++z=enc h l'++z'→Stop z∨Bad (hd h l) z→Stop z'∨Bad (hd h l') z'→l=l'∧z=z'
 | h,[],[],z,z',_,_,e,_,_=>⟨rfl,e⟩
 | h,[],r::l',z,z',_,o,e,s,_=>by
  exfalso
  have e:z=sto h r++(enc (chain h r) l'++z'):=by rw [← aA];exact e
  rcases s with s | s
  ·exact stop_sto (e▸s)
  ·exact s.2 r (o r (by simp)) ⟨_,e.symm⟩
 | h,r::l,[],z,z',o,_,e,_,s=>by
  exfalso
  have e:z'=sto h r++(enc (chain h r) l++z):=by rw [← aA];exact e.symm
  rcases s with s | s
  ·exact stop_sto (e▸s)
  ·exact s.2 r (o r (by simp)) ⟨_,e.symm⟩
 | h,r::l,r'::l',z,z',o,o',e,s,s'=>by
  have e:sto h r++(enc (chain h r) l++z)=sto h r'++(enc (chain h r') l'++z'):=by rw [← aA,← aA];exact e
  obtain ⟨rfl,e2⟩:=sto_pre e
  obtain ⟨rfl,rfl⟩:=enc_uniq (fun x hx=>o x (by simp [hx])) (fun x hx=>o' x (by simp [hx])) e2 s s'
  exact ⟨rfl,rfl⟩
def Rd (h t:Bs) (l:List Bs) (z:Bs):Prop:=OkL l∧t=enc h l++z∧(Stop z∨Bad (hd h l) z)
theorem Rd.uniq {h t:Bs} {l l':List Bs} {z z':Bs} (a:Rd h t l z) (b:Rd h t l' z'):l=l'∧z=z':=enc_uniq a.1 b.1 (a.2.1.symm.trans b.2.1) a.2.2 b.2.2
theorem stop_zeros (n:Nat):Stop (List.replicate n 0):=fun b h=>by
 cases n with
 | zero=>cases h
 | succ n=>exact (Option.some.inj h).symm
theorem stop_cons (z:Bs):Stop (0::z):=fun b h=>(Option.some.inj h).symm
theorem OkL.app {l m:List Bs} (h:OkL l) (h':OkL m):OkL (l++m):=fun x hx=>by
 rcases List.mem_append.1 hx with hx | hx
 ·exact h x hx
 ·exact h' x hx
theorem enc_le {h:Bs}:∀ (l:List Bs),l.length≤(enc h l).length
 | []=>nR 0
 | r::l=>by
  show l.length+1≤(sto h r++enc (chain h r) l).length
  have:=enc_le (h:=chain h r) l
  rw [lA,sto_len]
  omega
end Go.Ar
namespace Go.Proofs.YtobfnefajpiakaaGreatDoor
open Go Go.Lib Go.Abs Go.PE Go.Ar
variable [EA]
theorem join_two (a b:Bs):Lib.join [a,b] []=a++b:=by rw [join_cons];simp [joinTail]
theorem wChain_ok {a b:Bs} (h:a.length+b.length≤800000):m70 (a,b)=some (chain a b):=by
 unfold m70 joinM
 dsimp only
 rw [join_two,dT (by rw [lA];omega),dT (by simp)]
 dsimp only
 rw [oB,catM_of (by simp;omega),oB,wSum_ok (by simp;omega)]
 rfl
theorem rChain_ok {a b:Bs} (h:a.length+b.length≤800000):m57 (a,b)=some (chain a b):=by
 unfold m57
 dsimp only
 rw [catM_of (by simp;omega),oB,catM_of (by simp;omega),oB,rSum_ok (by simp;omega)]
 rfl
theorem strB_zero (n:Nat):strB (List.replicate n 0)=List.replicate n 0:=by unfold strB;rw [List.map_replicate];rfl
theorem nB_zero (n:Nat):List.replicate n (0:Int)=nB (List.replicate n 0):=by unfold nB;rw [List.map_replicate];rfl
abbrev Dk:Type:=Bool×Int×List Int×List Int×List (Int×Bs)
def dk (o:Bool) (L:Int) (du vi:Bs) (pd:List (Int×Bs)):Dk:=(o,L,nB du,nB vi,pd)
def usd (L:Int):Bool×Int:=if L=0 then (false,0) else (decide (L-1=0),L-1)
def spl (b:Bs) (p:Nat) (s:Bs):Bs:=b.take p++(s++b.drop (p+s.length))
theorem spl_len {b:Bs} {p:Nat} {s:Bs} (h:p+s.length≤b.length):(spl b p s).length=b.length:=by
 unfold spl
 simp only [lA,lT,List.length_drop]
 omega
variable {o:Bool} {L:Int} {du vi:Bs} {pd:List (Int×Bs)}
theorem lenN (s:Bs):lenM (nB s)=(s.length:Int):=by rw [lenI,nB_len]
theorem size_ok:m51 (false,dk o L du vi pd)=some (du.length:Int):=by
 unfold m51 dk
 dsimp only [nonM,oB]
 rw [lenN]
theorem new_ok {n:Int} (h1:1≤n) (h2:n≤10000):m24 n=some (0,false,dk false 0 (List.replicate n.toNat 0) (List.replicate n.toNat 0) []):=by
 unfold m24 dk
 rw [geI (by omega),geI (by omega),orF,cF,mkM_of (by omega) (by omega) (by show n*1≤_;omega),oB,oB,nB_zero]
theorem ins_ok {p k n:Nat} (h:p+k≤n) (hn:n≤10000000):PE.notM (PE.andM (PE.andM (PE.andM (leM 0 (p:Int)) (leM 0 (k:Int))) (leM (p:Int) (n:Int))) (leM (k:Int) (IntKind.wrap .i64 ((n:Int)-(p:Int)))))=false:=by
 rw [wrap_in (by omega) (by omega),leI (by omega),leI (by omega),leI (by omega),leI (by omega)]
 rfl
theorem read_ok (h0:0<du.length) (hv:vi.length=du.length) (hn:du.length≤1000000):m52 (0,(du.length:Int),false,dk false L du vi pd)=some (vi,0):=by
 unfold m52 dk
 dsimp only [nonM,oB,cF]
 have hi:=ins_ok (p:=0) (k:=du.length) (n:=du.length) (by omega) (by omega)
 rw [show ((0:Nat):Int)=0 from rfl] at hi
 rw [eqI rfl,notT,cF,lenN,lenN,hi,cF,chkM_of (by omega) (by omega),oB,chkM_of (by omega) (by omega),oB]
 have:partV (nB vi) (0:Int).toNat (du.length:Int).toNat=nB vi:=by
  unfold partV
  rw [Int.toNat_natCast,show (0:Int).toNat=0 from rfl,List.drop_zero,← hv,← nB_len,List.take_length]
 rw [this,strB_nB]
theorem read_off {p k:Int}:m52 (p,k,false,dk true L du vi pd)=some ([],361):=by
 unfold m52 dk
 dsimp only [nonM,oB,cT]
 rw [neI (by decide),notF,cT]
theorem put_ok {b s:Bs} {p:Nat} (h:p+s.length≤b.length):putM (nB b) (p:Int) (byteI s)=some (nB (spl b p s)):=by
 unfold putM
 have h2:byteI s=nB s:=rfl
 rw [h2,dT (by omega),dT (by rw [nB_len,nB_len];omega)]
 dsimp only
 unfold spl
 rw [nB_app,nB_app,Int.toNat_natCast,nB_len]
 unfold nB
 rw [← List.map_take,← List.map_drop]
theorem write_ok {s:Bs} {p:Nat} (h1:p<du.length) (h:p+s.length≤du.length) (hv:vi.length=du.length) (hn:du.length≤1000000) (hp:pd.length≤1000) (hL:0≤L∧L≤1000) :
  m13 ((p:Int),s,false,dk false L du vi pd)=some (0,(usd L).1,(usd L).2,nB (spl vi p s),pd++[((p:Int),s)]):=by
 unfold m13 dk
 dsimp only [nonM,oB,cF]
 rw [eqI rfl,notT,cF,lenN,lenN,lenI,ins_ok (by omega) (by omega),cF,appM_of (by show (pd.length+1)*24≤_;omega),oB,chkM_of (by omega) (by omega)]
 by_cases h0:p+s.length≤vi.length
 ·rw [oB,put_ok h0,oB]
  unfold usd
  by_cases hz:L=0
  ·rw [eqI hz,cT,if_pos hz,oB,hz]
  ·rw [neI hz,cF,if_neg hz,oB,wrap_in (by omega) (by omega)]
   try rfl
 ·omega
theorem write_off {p:Int} {s:Bs}:m13 (p,s,false,dk true L du vi pd)=some (361,true,L,nB vi,pd):=by
 unfold m13 dk
 dsimp only [nonM,oB,cT]
 rw [neI (by decide),notF,cT]
theorem copy_eq {a b:Bs} (h:a.length=b.length):copyM (nB a) (nB b)=nB b:=by
 unfold copyM
 rw [nB_len,h,← nB_len b,List.take_length,List.drop_eq_nil_of_le (by rw [nB_len,nB_len];omega),List.append_nil]
theorem clear_ok {α:Type} (xs:List α) (d:α):sliceM (zerosL xs d) 0 0=some []:=by
 rw [sliceM_of (by omega) (by omega) (by omega)];rfl
theorem sync_ok (hv:vi.length=du.length):m42 (false,dk false L du vi pd)=some (0,false,L,nB vi,[]):=by
 unfold m42 dk
 dsimp only [nonM,oB,cF]
 rw [eqI rfl,cT,clear_ok,oB,oB,copy_eq hv.symm]
theorem sync_off:m42 (false,dk true L du vi pd)=some (361,true,L,nB du,pd):=by
 unfold m42 dk
 dsimp only [nonM,oB,cT]
 rw [neI (by decide),cF,oB]
theorem cut_ok {c:Int} (h:0≤c):m29 (c,false,dk false L du vi pd)=some (0,decide (c=0),c):=by
 unfold m29 dk
 dsimp only [nonM,oB,cF]
 rw [eqI rfl,notT,cF,geI h,cF]
 try rfl
theorem cut_off {c:Int}:m29 (c,false,dk true L du vi pd)=some (361,true,L):=by
 unfold m29 dk
 dsimp only [nonM,oB,cT]
 rw [neI (by decide),notF,cT]
variable [EA]
theorem sto_isS {h r t:Bs} (hr:r.length≤65536) (hp:sto h r <+: 1::t):IsS t r (pS r).length∧(1::t:Bs).take ((pS r).length+33)=sto h r∧(pS r).length+33≤(1::t:Bs).length:=by
 obtain ⟨z,hz⟩:=hp
 have hl:=sto_len h r
 refine ⟨⟨hr,rfl,chain h r++z,?_⟩,?_,?_⟩
 ·have:(1:UInt8)::(pS r++(chain h r++z))=1::t:=by rw [← hz];simp [sto]
  exact (List.cons.inj this).2
 ·rw [← hz,← hl,List.take_left'];rfl
 ·rw [← hz,lA];omega
theorem bad_none {h t:Bs} (hn:∀ u k,¬ IsS t u k):Bad h (1::t):=⟨⟨1,rfl,by decide⟩,fun r hr hp=>hn _ _ (sto_isS hr hp).1⟩
theorem bad_one {h t u:Bs} {k:Nat} (hu:IsS t u k) (hn:¬ sto h u <+: 1::t):Bad h (1::t):=⟨⟨1,rfl,by decide⟩,fun r hr hp=>by
 obtain ⟨rfl,_⟩:=hu.uniq (sto_isS hr hp).1
 exact hn hp⟩
theorem bad_byte {h t:Bs} {b:UInt8} (h0:b≠0) (h1:b≠1):Bad h (b::t):=⟨⟨b,rfl,h0⟩,fun r _ hp=>by
 obtain ⟨z,hz⟩:=hp
 exact h1 (List.cons.inj hz).1.symm⟩
def LdQ (s:Bs) (o:(Bs×Int×Bool×List Bs)⊕(Bs×Int×Bool×List Bs)):Prop:=∃ l z,Rd h0 s l z∧((Stop z∧o=.inl (hd h0 l,((enc h0 l).length:Int),false,l))∨(Bad (hd h0 l) z∧∃ y,o=.inr y))
theorem via_loop {β γ:Type} {o:Option β} {f:β→Option γ} {Q:β→Prop} (h:Ans o Q):∃ x,Q x∧Option.bind o f=f x:=by
 obtain ⟨x,h1,h2⟩:=h
 exact ⟨x,h2,by rw [h1];rfl⟩
theorem load_ok {s:Bs} (hs:s.length≤100000) (d:Dk):∃ l z,Rd h0 s l z∧((Stop z∧m54 (s,false,d)=some (0,false,hd h0 l,((enc h0 l).length:Int),false,l))∨(Bad (hd h0 l) z∧m54 (s,false,d)=some (372,true,[],0,false,[]))):=by
 suffices h:∃ o,LdQ s o∧m54 (s,false,d)=Sum.elim (fun (t:List UInt8×Int×Bool×List (List UInt8))=>some (0,false,t.1,t.2.1,t.2.2.1,t.2.2.2)) (fun (t:List UInt8×Int×Bool×List (List UInt8))=>some (372,true,[],0,false,[])) o by
  obtain ⟨o,⟨l,z,h1,h2⟩,h3⟩:=h
  refine ⟨l,z,h1,?_⟩
  rcases h2 with ⟨h2,rfl⟩ | ⟨h2,y,rfl⟩
  ·exact .inl ⟨h2,h3⟩
  ·exact .inr ⟨h2,h3⟩
 unfold m54
 dsimp only [nonM,oB]
 rw [mkM_of (by omega) (by omega) (by decide),oB,show (32:Int).toNat=32 from rfl,strB_zero]
 refine via_loop ?_
 refine Ans.loop (fun k st=>∃ l t,OkL l∧s=enc h0 l++t∧st=(hd h0 l,((enc h0 l).length:Int),false,l)∧l.length=k) s.length ⟨[],s,(fun r hr=>by simp at hr),rfl,rfl,rfl⟩ ?_
 rintro k st hk ⟨l,t,hl,hst,rfl,hlk⟩
 have hsl:s.length=(enc h0 l).length+t.length:=by rw [hst,lA]
 have hle:=enc_le (h:=h0) l
 have hdr:s.drop (enc h0 l).length=t:=by rw [hst,List.drop_left'];rfl
 dsimp only
 rw [lenI]
 cases t with
 | nil =>
  rw [geI (by simp at hsl;omega),cF,oB,andF,cF]
  exact Ans.some ⟨l,[],⟨hl,hst,.inl fun b hb=>by cases hb⟩,.inl ⟨fun b hb=>(by cases hb),rfl⟩⟩
 | cons b t =>
  simp only [List.length_cons] at hsl
  have hb:s[(enc h0 l).length]? = some b:=by
   have:=congrArg (fun x:Bs=>x[0]?) hdr
   simpa using this
  rw [ltI (by omega),cT,byteM_of hb,oB,andT]
  by_cases hb0:b=0
  ·subst hb0
   rw [show eqM ((0:UInt8).toNat:Int) 0=true from rfl,notT,cF]
   exact Ans.some ⟨l,_,⟨hl,hst,.inl (stop_cons t)⟩,.inl ⟨stop_cons t,rfl⟩⟩
  have hb0':(b.toNat:Int)≠0:=fun e=>hb0 (u8eq (show b.toNat=(0:UInt8).toNat by rw [show (0:UInt8).toNat=0 from rfl];omega))
  rw [neI hb0',notF,cT,oB]
  by_cases hb1:b=1
  ·subst hb1
   have hdr1:s.drop ((enc h0 l).length+1)=t:=by rw [← List.drop_drop,hdr];rfl
   rw [show eqM ((1:UInt8).toNat:Int) 1=true from rfl,notT,cF,wrap_in (by omega) (by omega)]
   obtain ⟨r3,e3,q3⟩:=wStr_ok (s:=s) (p:=(enc h0 l).length+1) (by omega) (by omega)
   rw [show (((enc h0 l).length:Int)+1)=(((enc h0 l).length+1:Nat):Int) by omega,e3,oB]
   rcases q3.cases with ⟨u,k2,hu,rfl⟩ | ⟨hu,rfl⟩
   ·rw [hdr1] at hu
    have hkt:=hu.le.1
    dsimp only
    have bad:(¬ sto (hd h0 l) u <+: 1::t)→LdQ s (.inr (hd h0 l,((enc h0 l).length:Int),false,l)):=fun hn=>⟨l,_,⟨hl,hst,.inr (bad_one hu hn)⟩,.inr ⟨bad_one hu hn,_,rfl⟩⟩
    by_cases hfit:(enc h0 l).length+1+k2+32≤s.length
    ·rw [eqI rfl,andT,wrap_in (by omega) (by omega),leI (by omega),notT,cF]
     have hk2:=hu.2.1
     have hu1:=hu.1
     have hps:=pS_len hu1
     have hhd:=hd_len h0_len l
     rw [wChain_ok (by omega),oB,appM_of (by show (l.length+1)*16≤_;omega),oB,wPutS_ok hu1,oB]
     dsimp only
     rw [catM_of (by rw [show strB [1]=([1]:Bs) from rfl];simp;omega),oB,catM_of (by rw [show strB [1]=([1]:Bs) from rfl];simp [chain_len];omega),oB]
     have hout:(strB [1]++pS u)++chain (hd h0 l) u=sto (hd h0 l) u:=rfl
     rw [hout,oB]
     dsimp only
     rw [sliceM_of (by omega) (by omega) (by omega),oB]
     have hsl2:(s.take (((((enc h0 l).length+1+k2:Nat):Int)+32).toNat)).drop (((enc h0 l).length:Int).toNat)=(1::t:Bs).take (k2+33):=by
      rw [List.drop_take,show ((enc h0 l).length:Int).toNat=(enc h0 l).length by omega,hdr]
      congr 1
      omega
     rw [hsl2]
     by_cases heq:sto (hd h0 l) u=(1::t:Bs).take (k2+33)
     ·rw [eqsT heq,notT,cF]
      have hlen:=congrArg List.length heq
      rw [sto_len,lT,List.length_cons] at hlen
      refine Ans.some ⟨by omega,l++[u],(1::t:Bs).drop (k2+33),hl.app fun x hx=>?_,?_,?_,?_⟩
      ·simp at hx;subst hx;exact hu1
      ·rw [enc_snoc,aA,heq,List.take_append_drop];exact hst
      ·rw [hd_snoc,enc_snoc,lA,lenI,wrap_in (by rw [sto_len];omega) (by rw [sto_len];omega)]
       refine Prod.ext rfl (Prod.ext ?_ rfl)
       exact (Int.natCast_add _ _).symm
      ·rw [lA];simp;omega
     ·rw [eqsF heq,notF,cT]
      refine Ans.some ⟨l,_,⟨hl,hst,.inr (bad_one hu fun hp=>?_)⟩,.inr ⟨bad_one hu fun hp=>?_,_,rfl⟩⟩
      all_goals
       obtain ⟨_,h2,_⟩:=sto_isS hu1 hp
       exact heq (by rw [hk2];exact h2.symm)
    ·rw [eqI rfl,andT,wrap_in (by omega) (by omega),gtI (by omega),notF,cT]
     refine Ans.some (bad fun hp=>?_)
     obtain ⟨h1,_,h2⟩:=sto_isS hu.1 hp
     have:=hu.2.1
     simp only [List.length_cons] at h2
     omega
   ·rw [hdr1] at hu
    rw [neI (by decide),andF,notF,cT]
    exact Ans.some ⟨l,_,⟨hl,hst,.inr (bad_none hu)⟩,.inr ⟨bad_none hu,_,rfl⟩⟩
  ·have hb1':(b.toNat:Int)≠1:=fun e=>hb1 (u8eq (show b.toNat=(1:UInt8).toNat by rw [show (1:UInt8).toNat=1 from rfl];omega))
   rw [neI hb1',notF,cT]
   exact Ans.some ⟨l,_,⟨hl,hst,.inr (bad_byte hb0 hb1)⟩,.inr ⟨bad_byte hb0 hb1,_,rfl⟩⟩
variable [EA]
def Zs (z:Bs):Prop:=z=List.replicate z.length 0
theorem zs_all {z:Bs} (h:∀ b∈z,b=0):Zs z:=List.eq_replicate_iff.2 ⟨rfl,h⟩
theorem Zs.mem {z:Bs} (h:Zs z):∀ b∈z,b=0:=(List.eq_replicate_iff.1 h).2
theorem mem_drop {p:UInt8→Bool} {b:UInt8} (hb:p b=false):∀ {l:Bs},b∈l→b∈l.dropWhile p
 | a::l,h=>by
  rw [List.dropWhile_cons]
  split
  ·rename_i ha
   rcases List.mem_cons.1 h with rfl | h
   ·rw [hb] at ha;cases ha
   ·exact mem_drop hb h
  ·exact h
theorem drop_all {p:UInt8→Bool}:∀ {l:Bs},(∀ b∈l,p b=true)→l.dropWhile p=[]
 | [],_=>rfl
 | a::l,h=>by
  rw [List.dropWhile_cons,if_pos (h a (by simp))]
  exact drop_all fun b hb=>h b (by simp [hb])
theorem trim_ok (z:Bs):∃ r,trimM z [(0:UInt8)]=some r∧(r=[]↔Zs z):=by
 refine ⟨Lib.trimS z [0],rfl,fun h=>zs_all fun b hb=>?_,fun h=>?_⟩
 ·apply Classical.byContradiction
  intro h0
  have hp:(([0]:List UInt8).contains b)=false:=by simp [h0]
  have h1:b∈Lib.trimS z [0]:=by
   unfold Lib.trimS Lib.trimLeftS Lib.trimRightS
   exact mem_drop hp (List.mem_reverse.2 (mem_drop hp (List.mem_reverse.2 hb)))
  rw [h] at h1
  cases h1
 ·unfold Lib.trimS Lib.trimLeftS Lib.trimRightS
  have h1:z.reverse.dropWhile (([0]:List UInt8).contains ·)=[]:=drop_all fun b hb=>by simp [h.mem b (List.mem_reverse.1 hb)]
  rw [h1]
  rfl
variable {L:Int} {du vi:Bs} {pd:List (Int×Bs)}
theorem spl_end {a z s:Bs} (h:s.length=z.length):spl (a++z) a.length s=a++s:=by
 unfold spl
 rw [List.take_left' rfl,h,List.drop_eq_nil_of_le (by simp),List.append_nil]
theorem open_off:m25 (false,dk true L du vi pd)=some (361,true,L,nB du,nB vi,true,[],0,false,[],pd):=by
 unfold m25
 rw [show (false,dk true L du vi pd)=(false,true,L,nB du,nB vi,pd) from rfl]
 dsimp only [nonM,oB]
 rw [show (false,true,L,nB du,nB vi,pd)=(false,dk true L du vi pd) from rfl,size_ok,oB,read_off,oB]
 dsimp only
 rw [neI (by decide),notF,cT]
theorem open_ok (h0:0<du.length) (hv:vi.length=du.length) (hn:du.length≤100000) (hp:pd.length≤1000) (hL:0≤L∧L≤1000):∃ l z,Rd Ar.h0 vi l z ∧
  ((Bad (hd Ar.h0 l) z∧m25 (false,dk false L du vi pd)=some (372,false,L,nB du,nB vi,true,[],0,false,[],pd)) ∨
  (Stop z∧Zs z∧m25 (false,dk false L du vi pd)=some (0,false,L,nB du,nB vi,false,hd Ar.h0 l,((enc Ar.h0 l).length:Int),false,l,pd)) ∨
  (Stop z∧¬ Zs z∧(usd L).1=true∧m25 (false,dk false L du vi pd)=some (361,true,(usd L).2,nB du,nB (enc Ar.h0 l++List.replicate z.length 0),true,[],0,false,[],pd++[(((enc Ar.h0 l).length:Int),List.replicate z.length 0)])) ∨
  (Stop z∧¬ Zs z∧(usd L).1=false∧m25 (false,dk false L du vi pd)=some (0,false,(usd L).2,nB (enc Ar.h0 l++List.replicate z.length 0),nB (enc Ar.h0 l++List.replicate z.length 0),false,hd Ar.h0 l,((enc Ar.h0 l).length:Int),false,l,[]))):=by
 obtain ⟨l,z,hr,hm⟩:=load_ok (s:=vi) (by omega) (dk false L du vi pd)
 refine ⟨l,z,hr,?_⟩
 unfold m25
 rw [show (false,dk false L du vi pd)=(false,false,L,nB du,nB vi,pd) from rfl]
 dsimp only [nonM,oB]
 rw [show (false,false,L,nB du,nB vi,pd)=(false,dk false L du vi pd) from rfl,size_ok,oB,read_ok h0 hv (by omega),oB]
 dsimp only
 rw [eqI rfl,notT,cF]
 rcases hm with ⟨hs,hm⟩ | ⟨hb,hm⟩
 ·rw [hm,oB]
  have hvl:vi.length=(enc Ar.h0 l).length+z.length:=by rw [hr.2.1,lA]
  dsimp only [nonM,oB]
  have hsl:sliceM vi ((enc Ar.h0 l).length:Int) (lenM vi)=some z:=by
   rw [lenI,sliceM_of (by omega) (by omega) (by omega),Int.toNat_natCast,Int.toNat_natCast,List.take_length,hr.2.1,List.drop_left' rfl]
  rw [eqI rfl,notT,cF,hsl,oB]
  obtain ⟨r6,h6,h6'⟩:=trim_ok z
  rw [h6,oB]
  by_cases hz:Zs z
  ·refine .inr (.inl ⟨hs,hz,?_⟩)
   rw [eqsT (h6'.2 hz),notT,cF,oB]
   dsimp only
   rw [eqI rfl,notT,cF]
  ·have hzl:0<z.length:=by
    cases z with
    | nil=>exact absurd rfl hz
    | cons _ _=>simp
   rw [eqsF (fun e=>hz (h6'.1 e)),notF,cT,lenI,wrap_in (by omega) (by omega),mkM_of (by omega) (by omega) (by show _*1≤_;omega),oB,show ((vi.length:Int)-((enc Ar.h0 l).length:Int)).toNat=z.length by omega,strB_zero]
   have hw:=write_ok (L:=L) (du:=du) (vi:=vi) (pd:=pd) (s:=List.replicate z.length 0) (p:=(enc Ar.h0 l).length) (by omega) (by rw [List.length_replicate];omega) hv (by omega) hp hL
   rw [hw,oB]
   dsimp only
   rw [eqI rfl,notT,cF]
   have hspl:spl vi (enc Ar.h0 l).length (List.replicate z.length 0)=enc Ar.h0 l++List.replicate z.length 0:=by
    rw [hr.2.1];exact spl_end (by simp)
   rw [hspl]
   cases hu:(usd L).1 with
   | true =>
    refine .inr (.inr (.inl ⟨hs,hz,rfl,?_⟩))
    rw [show (false,true,(usd L).2,nB du,nB (enc Ar.h0 l++List.replicate z.length 0),pd++[(((enc Ar.h0 l).length:Int),(List.replicate z.length 0:Bs))])=(false,dk true (usd L).2 du (enc Ar.h0 l++List.replicate z.length 0) (pd++[(((enc Ar.h0 l).length:Int),(List.replicate z.length 0:Bs))])) from rfl,sync_off,oB]
    dsimp only
    rw [neI (by decide),notF,cT,oB]
    dsimp only
    rw [oB]
    dsimp only
    rw [neI (by decide),notF,cT]
   | false =>
    refine .inr (.inr (.inr ⟨hs,hz,rfl,?_⟩))
    rw [show (false,false,(usd L).2,nB du,nB (enc Ar.h0 l++List.replicate z.length 0),pd++[(((enc Ar.h0 l).length:Int),(List.replicate z.length 0:Bs))])=(false,dk false (usd L).2 du (enc Ar.h0 l++List.replicate z.length 0) (pd++[(((enc Ar.h0 l).length:Int),(List.replicate z.length 0:Bs))])) from rfl,sync_ok (by rw [lA,List.length_replicate];omega),oB]
    dsimp only
    rw [eqI rfl,notT,cF,oB]
    dsimp only
    rw [oB]
    dsimp only
    rw [eqI rfl,notT,cF]
 ·refine .inl ⟨hb,?_⟩
  rw [hm,oB]
  dsimp only
  rw [neI (by decide),notF,cT]
variable [EA]
variable {o:Bool} {L:Int} {du vi:Bs} {pd:List (Int×Bs)} {hh:Bs} {p:Nat} {br:Bool} {recs l:List Bs}
theorem both_self {α:Type} (a:Option α):PE.bothM a a=a:=by
 unfold PE.bothM
 split
 ·rfl
 ·rename_i h _
  exact absurd rfl h
theorem clone_ok {l:List Bs} (h:l.length≤1000000):mo36 l=some l:=by
 unfold mo36 nilM
 cases l with
 | nil =>
  show PE.bothM _ (Option.bind (appM _ [] []) _)=_
  rw [appM_of (by show (0+0)*16≤_;omega)]
  exact both_self (some [])
 | cons a l =>
  show (Option.bind (appM _ [] (a::l)) _)=_
  rw [appM_of (by show (0+(a::l).length)*16≤_;omega)]
  rfl
theorem room_ok (hp:p≤du.length) (hn:du.length≤100000):m20 (false,hh,(p:Int),br,recs,false,dk o L du vi pd)=some (((du.length-p:Nat):Int),dk o L du vi pd):=by
 unfold m20 dk
 dsimp only [nonM,oB]
 rw [show (false,o,L,nB du,nB vi,pd)=(false,dk o L du vi pd) from rfl,size_ok,oB,wrap_in (by omega) (by omega),show (du.length:Int)-(p:Int)=((du.length-p:Nat):Int) by omega]
theorem recs_ok (h:recs.length≤1000000) {n:Int}:m19 (false,hh,n,br,recs,false,dk o L du vi pd)=some recs:=by
 unfold m19
 dsimp only [nonM,oB]
 rw [clone_ok h,oB]
theorem app_broken:m10 (l,false,hh,(p:Int),true,recs,false,dk o L du vi pd)=some (370,false,hh,(p:Int),true,o,L,nB du,nB vi,recs,pd):=by
 unfold m10 dk
 dsimp only [nonM,oB]
 rw [cF,notT,cF,oB,orT,cT]
def apd (o:Bool) (L:Int) (du vi:Bs) (pd:List (Int×Bs)) (p:Nat) (out:Bs):Int×Bool×Int×Bs×Bs×List (Int×Bs) :=
 if o then (361,true,L,du,vi,pd) else
 if (usd L).1 then (361,true,(usd L).2,du,spl vi (p+1) out.tail,pd++[(((p+1:Nat):Int),out.tail)]) else
 if (usd (usd L).2).1 then (361,true,(usd (usd L).2).2,spl vi (p+1) out.tail,spl (spl vi (p+1) out.tail) p [1],[((p:Int),[1])]) else
 (0,false,(usd (usd L).2).2,spl (spl vi (p+1) out.tail) p [1],spl (spl vi (p+1) out.tail) p [1],[])
theorem enc_step {h:Bs} {l:List Bs} {k:Nat} (hk:k<l.length):enc h (l.take (k+1))=enc h (l.take k)++sto (hd h (l.take k)) l[k]∧hd h (l.take (k+1))=chain (hd h (l.take k)) l[k]:=by
 rw [List.take_succ_eq_append_getElem hk,enc_snoc,hd_snoc]
 exact ⟨rfl,rfl⟩
theorem enc_bound {h:Bs}:∀ {l:List Bs},OkL l→(enc h l).length≤l.length*65578
 | [],_=>nR 0
 | r::l,hl=>by
  show (sto h r++enc (chain h r) l).length≤_
  have h1:=enc_bound (h:=chain h r) (l:=l) fun x hx=>hl x (by simp [hx])
  have h2:=pS_len (hl r (by simp))
  have h3:=hl r (by simp)
  rw [lA,sto_len,List.length_cons]
  omega
theorem usd_in (hL:0≤L∧L≤1000):0≤(usd L).2∧(usd L).2≤1000:=by
 unfold usd
 split
 ·exact ⟨by decide,by decide⟩
 ·dsimp only;omega
theorem app_ok (hhl:hh.length=32) (hl:OkL l) (hll:l.length≤1000) (hr:recs.length≤100000) (hp:p≤du.length) (hv:vi.length=du.length) (hn:du.length≤100000) (hpd:pd.length≤100) (hL:0≤L∧L≤1000) :
  m10 (l,false,hh,(p:Int),false,recs,false,dk o L du vi pd) =
  some (if du.length<p+(enc hh l).length then (371,false,hh,(p:Int),false,o,L,nB du,nB vi,recs,pd) else
   if l=[] then (0,false,hh,(p:Int),false,o,L,nB du,nB vi,recs,pd) else
   if (apd o L du vi pd p (enc hh l)).1=0 then (0,false,hd hh l,((p+(enc hh l).length:Nat):Int),false,(apd o L du vi pd p (enc hh l)).2.1,(apd o L du vi pd p (enc hh l)).2.2.1,nB (apd o L du vi pd p (enc hh l)).2.2.2.1,nB (apd o L du vi pd p (enc hh l)).2.2.2.2.1,recs++l,(apd o L du vi pd p (enc hh l)).2.2.2.2.2) else
   ((apd o L du vi pd p (enc hh l)).1,false,hh,(p:Int),true,(apd o L du vi pd p (enc hh l)).2.1,(apd o L du vi pd p (enc hh l)).2.2.1,nB (apd o L du vi pd p (enc hh l)).2.2.2.1,nB (apd o L du vi pd p (enc hh l)).2.2.2.2.1,recs,(apd o L du vi pd p (enc hh l)).2.2.2.2.2)):=by
 unfold m10
 rw [show (l,false,hh,(p:Int),false,recs,false,dk o L du vi pd)=(l,false,hh,(p:Int),false,recs,false,o,L,nB du,nB vi,pd) from rfl]
 dsimp only [nonM,oB]
 rw [cF,notF,cT]
 have hbd:=enc_bound (h:=hh) hl
 have hlong:∃ t:Unit⊕Int,t=.inl ()∧loopM (fun (s:Int)=>bif ltM s (lenM l) then (idxM l s).bind fun r=>(m34 r).bind fun r=>bif r then some (Sum.inr (Sum.inr s)) else some (Sum.inl (IntKind.wrap .i64 (s+1))) else some (Sum.inr (Sum.inl ()))) 0=some t:=by
  refine ⟨_,rfl,?_⟩
  refine loopM_fn (fun k=>(k:Int)) l.length (fun k hk=>?_) ?_
  ·rw [lenI,ltI (by omega),cT,idxM_lt hk,oB,show m34 l[k]=some (ltM 65536 (lenM l[k])) from rfl,oB,lenI,geI (by have:=hl _ (List.getElem_mem hk);omega),cF,wrap_in (by omega) (by omega)]
   rfl
  ·rw [lenI,geI (by omega),cF]
 obtain ⟨_,rfl,hlong⟩:=hlong
 rw [hlong,oB]
 dsimp only [Sum.elim_inl,oB]
 rw [gtI (by decide),orF,cF,clone_ok (by omega),oB]
 have hloop:loopM (fun (s:Int×List UInt8×Int×List UInt8×List (List UInt8))=>bif ltM s.1 (lenM l) then (idxM l s.1).bind fun r_5=>(m70 (s.2.1,r_5)).bind fun r_6=>(appM (nat_lit 16) s.2.2.2.2 [r_5]).bind fun r_7=>(m71 r_5).bind fun r_8=>(catM (strB [1]) r_8.1).bind fun r_9=>(catM r_9 r_6).bind fun r_10=>(catB s.2.2.2.1 r_10).bind fun r=>some (Sum.inl (IntKind.wrap .i64 (s.1+1),r_6,IntKind.wrap .i64 (s.2.2.1+lenM r_10),r,r_7)) else some (Sum.inr (s.2.1,s.2.2.1,s.2.2.2.1,s.2.2.2.2))) (0,hh,(p:Int),[],recs)=some (hd hh l,((p+(enc hh l).length:Nat):Int),enc hh l,recs++l):=by
  refine loopM_at (fun k=>((k:Int),hd hh (l.take k),((p+(enc hh (l.take k)).length:Nat):Int),enc hh (l.take k),recs++l.take k)) l.length ?_ (fun k hk=>?_) ?_
  ·simp [hd,enc]
  ·have hkl:=hl _ (List.getElem_mem hk)
   have hps:=pS_len hkl
   have hb2:=enc_bound (h:=hh) (l:=l.take k) fun x hx=>hl x (List.mem_of_mem_take hx)
   have hb3:(l.take k).length≤1000:=by rw [lT];omega
   have hhd:=hd_len hhl (l.take k)
   dsimp only
   rw [lenI,ltI (by omega),cT,idxM_lt hk,oB,wChain_ok (by omega),oB,appM_of (by rw [lA];show (_+1)*16≤_;omega),oB,wPutS_ok hkl,oB]
   dsimp only
   rw [catM_of (by rw [show strB [1]=([1]:Bs) from rfl];simp;omega),oB,catM_of (by rw [show strB [1]=([1]:Bs) from rfl];simp [chain_len];omega),oB]
   have hout:(strB [1]++pS l[k])++chain (hd hh (l.take k)) l[k]=sto (hd hh (l.take k)) l[k]:=rfl
   rw [hout,catB_of (by rw [sto_len];omega),oB,lenI,wrap_in (by omega) (by omega),wrap_in (by rw [sto_len];omega) (by rw [sto_len];omega),(enc_step hk).1,(enc_step hk).2,lA,aA,List.take_succ_eq_append_getElem hk]
   rw [show ((p+(enc hh (l.take k)).length:Nat):Int)+((sto (hd hh (l.take k)) l[k]).length:Int)=((p+((enc hh (l.take k)).length+(sto (hd hh (l.take k)) l[k]).length):Nat):Int) by omega]
   rfl
  ·dsimp only
   rw [lenI,geI (by omega),cF,List.take_length]
 rw [hloop,oB]
 dsimp only
 rw [show (false,hh,(p:Int),false,recs,false,o,L,nB du,nB vi,pd)=(false,hh,(p:Int),false,recs,false,dk o L du vi pd) from rfl,room_ok hp hn,oB,lenI]
 by_cases hfit:du.length<p+(enc hh l).length
 ·rw [if_pos hfit,ltI (by omega),cT]
  rfl
 rw [if_neg hfit,geI (by omega),cF]
 by_cases hnil:l=[]
 ·subst hnil
  rw [if_pos rfl,show enc hh []=[] from rfl,eqsT rfl,cT]
  rfl
 rw [if_neg hnil,eqsF (fun e=>hnil (enc_nil.1 e)),cF]
 obtain ⟨t,ht⟩:=enc_head (h:=hh) hnil
 have h33:33≤(enc hh l).length:=by
  cases l with
  | nil=>exact absurd rfl hnil
  | cons r l =>
   show 33≤(sto hh r++_).length
   rw [lA,sto_len];omega
 rw [ht,List.length_cons] at h33
 rw [ht] at hfit ⊢
 rw [List.length_cons] at hfit
 rw [sliceM_of (by omega) (by rw [List.length_cons];omega) (by rw [List.length_cons];omega),oB,sliceM_of (by omega) (by omega) (by rw [List.length_cons];omega),oB,Int.toNat_natCast,List.take_length,show (1:Int).toNat=1 from rfl,show (0:Int).toNat=0 from rfl,List.drop_one,List.tail_cons,show ((1::t:Bs).take 1).drop 0=[1] from rfl,wrap_in (by omega) (by omega),show ((p:Int)+1)=((p+1:Nat):Int) by omega]
 dsimp only [dk]
 rw [show ((o,L,nB du,nB vi,pd):Dk)=dk o L du vi pd from rfl]
 have htl:(1::t:Bs).tail=t:=rfl
 cases o with
 | true =>
  have ha:apd true L du vi pd p (1::t)=(361,true,L,du,vi,pd):=rfl
  rw [write_off,oB,ha]
  dsimp only
  rw [neI (by decide),notF,cT,oB,if_neg (by decide)]
  dsimp only
  rw [neI (by decide),notF,cT]
 | false =>
  rw [write_ok (by omega) (by omega) hv (by omega) (by omega) hL,oB]
  dsimp only
  rw [eqI rfl,notT,cF]
  have hv1:(spl vi (p+1) t).length=du.length:=by rw [spl_len (by omega),hv]
  cases hu:(usd L).1 with
  | true =>
   have ha:apd false L du vi pd p (1::t)=(361,true,(usd L).2,du,spl vi (p+1) t,pd++[(((p+1:Nat):Int),t)]):=by
    unfold apd
    rw [if_neg (by decide),if_pos hu];rfl
   rw [ha,show ((true,(usd L).2,nB du,nB (spl vi (p+1) t),pd++[(((p+1:Nat):Int),t)]):Dk)=dk true (usd L).2 du (spl vi (p+1) t) (pd++[(((p+1:Nat):Int),t)]) from rfl,sync_off,oB]
   dsimp only
   rw [neI (by decide),notF,cT,oB,if_neg (by decide)]
   dsimp only
   rw [neI (by decide),notF,cT]
  | false =>
   rw [show ((false,(usd L).2,nB du,nB (spl vi (p+1) t),pd++[(((p+1:Nat):Int),t)]):Dk)=dk false (usd L).2 du (spl vi (p+1) t) (pd++[(((p+1:Nat):Int),t)]) from rfl,sync_ok hv1,oB]
   dsimp only
   rw [eqI rfl,notT,cF,show ((false,(usd L).2,nB (spl vi (p+1) t),nB (spl vi (p+1) t),([]:List (Int×Bs))):Dk)=dk false (usd L).2 (spl vi (p+1) t) (spl vi (p+1) t) [] from rfl,
    write_ok (by rw [hv1];omega) (by rw [hv1];show p+1≤_;omega) rfl (by omega) (by simp) (usd_in hL),oB]
   dsimp only
   rw [eqI rfl,notT,cF,List.nil_append]
   have hv2:(spl (spl vi (p+1) t) p [1]).length=(spl vi (p+1) t).length:=spl_len (by rw [hv1];show p+1≤_;omega)
   cases hu2:(usd (usd L).2).1 with
   | true =>
    have ha:apd false L du vi pd p (1::t)=(361,true,(usd (usd L).2).2,spl vi (p+1) t,spl (spl vi (p+1) t) p [1],[((p:Int),[1])]):=by
     unfold apd
     rw [if_neg (by decide),hu,if_neg (by decide),if_pos hu2];rfl
    rw [ha,show ((true,(usd (usd L).2).2,nB (spl vi (p+1) t),nB (spl (spl vi (p+1) t) p [1]),[((p:Int),([1]:Bs))]):Dk)=dk true (usd (usd L).2).2 (spl vi (p+1) t) (spl (spl vi (p+1) t) p [1]) [((p:Int),[1])] from rfl,sync_off,oB]
    dsimp only
    rw [neI (by decide),notF,cT,oB,if_neg (by decide)]
    dsimp only
    rw [neI (by decide),notF,cT]
   | false =>
    have ha:apd false L du vi pd p (1::t)=(0,false,(usd (usd L).2).2,spl (spl vi (p+1) t) p [1],spl (spl vi (p+1) t) p [1],[]):=by
     unfold apd
     rw [if_neg (by decide),hu,if_neg (by decide),hu2,if_neg (by decide)];rfl
    rw [ha,show ((false,(usd (usd L).2).2,nB (spl vi (p+1) t),nB (spl (spl vi (p+1) t) p [1]),[((p:Int),([1]:Bs))]):Dk)=dk false (usd (usd L).2).2 (spl vi (p+1) t) (spl (spl vi (p+1) t) p [1]) [((p:Int),[1])] from rfl,sync_ok hv2,oB]
    dsimp only
    rw [eqI rfl,notT,cF,oB,if_pos rfl]
    dsimp only
    rw [eqI rfl,notT,cF]
variable [EA]
theorem comp_lt {zs:List Int} (h:List.Pairwise (·≤·) zs):List.Pairwise (·<·) (Lib.compact zs):=by
 unfold Lib.compact Lib.compactUpTo
 rw [List.pairwise_map]
 refine List.Pairwise.imp_of_mem (fun {a b} ha hb hab=>?_) ((List.pairwise_lt_range (n:=zs.length)).filter _)
 have hal:a<zs.length:=List.mem_range.1 (List.mem_filter.1 ha).1
 have hbl:b<zs.length:=List.mem_range.1 (List.mem_filter.1 hb).1
 have hk:=(List.mem_filter.1 hb).2
 unfold Lib.keeps at hk
 have hk:=oD hk
 rw [getB (by simpa using hbl),getB (by simp;omega)] at hk
 rw [getB (by simpa using hal),getB (by simpa using hbl)]
 simp only [List.getElem_toArray] at hk ⊢
 have hs:=List.pairwise_iff_getElem.1 h
 have h1:zs[b-1]≤zs[b]:=hs (b-1) b (by omega) hbl (by omega)
 have h2:zs[a]≤zs[b-1]:=by
  by_cases e:a=b-1
  ·subst e;exact Int.le_refl _
  ·exact hs a (b-1) hal (by omega) (by omega)
 rcases hk with h0 | hne
 ·omega
 ·omega
theorem mem_comp {zs:List Int}:∀ (j:Nat) (hj:j<zs.length),zs[j]∈Lib.compact zs
 | j,hj=>by
  by_cases hk:Lib.keeps zs.toArray j=true
  ·unfold Lib.compact Lib.compactUpTo
   refine List.mem_map.2 ⟨j,List.mem_filter.2 ⟨List.mem_range.2 hj,hk⟩,?_⟩
   rw [getB (by simpa using hj)]
   simp
  ·have hk:¬ (j=0∨zs.toArray[j]! ≠ zs.toArray[j-1]!):=fun h=>hk (dT h)
   have h0:j≠0:=fun h=>hk (.inl h)
   have he:zs.toArray[j]! = zs.toArray[j-1]! := Classical.byContradiction fun h=>hk (.inr h)
   rw [getB (by simpa using hj),getB (by simp;omega)] at he
   simp only [List.getElem_toArray] at he
   rw [he]
   exact mem_comp (j-1) (by omega)
 termination_by j=>j
def okeep (keep:List Int):List Int:=Lib.compact (isortI keep)
theorem okeep_lt (keep:List Int):List.Pairwise (·<·) (okeep keep):=comp_lt (isortI_sorted _)
theorem okeep_mem {keep:List Int} {i:Int}:i∈okeep keep↔i∈keep:=by
 refine ⟨fun h=>(isortI_perm _).mem_iff.1 (compact_mem h),fun h=>?_⟩
 obtain ⟨j,hj,e1⟩:=List.mem_iff_getElem.1 ((isortI_perm _).mem_iff.2 h)
 rw [← e1]
 exact mem_comp j hj
theorem okeep_len (keep:List Int):(okeep keep).length≤keep.length:=by
 refine Nat.le_trans (compact_len _) ?_
 rw [(isortI_perm _).length_eq]
 exact nR _
def inN (n:Nat) (i:Int):Bool:=!(decide (i<0)||decide ((n:Int)≤i))
theorem one_keep {keep:List Int} {n:Nat} (hn:n≤1):(okeep keep).filter (inN n)=if n=1∧(0:Int)∈keep then [0] else []:=by
 have hp:List.Pairwise (·<·) ((okeep keep).filter (inN n)):=(okeep_lt keep).filter _
 have hm:∀ i,i∈(okeep keep).filter (inN n)↔i∈keep∧0≤i∧i<n:=fun i=>by
  rw [List.mem_filter,okeep_mem]
  unfold inN
  simp only [Bool.not_eq_true',Bool.or_eq_false_iff,decide_eq_false_iff_not]
  constructor<;>rintro ⟨h1,h2,h3⟩<;>exact ⟨h1,by omega,by omega⟩
 generalize hl:(okeep keep).filter (inN n)=l at hp hm
 split
 ·rename_i h
  obtain ⟨rfl,h0⟩:=h
  match l,hp,hm with
  | [],_,hm=>exact absurd ((hm 0).2 ⟨h0,by omega,by omega⟩) (by simp)
  | [a],_,hm =>
   have:=(hm a).1 (by simp)
   rw [show a=0 by omega]
  | a::b::r,hp,hm =>
   have h1:=(hm a).1 (by simp)
   have h2:=(hm b).1 (by simp)
   have h3:a<b:=(List.pairwise_cons.1 hp).1 b (by simp)
   omega
 ·rename_i h
  match l,hm with
  | [],_=>rfl
  | a::r,hm =>
   have h1:=(hm a).1 (by simp)
   exact absurd ⟨by omega,by rw [show (0:Int)=a by omega];exact h1.1⟩ h
theorem bad_eq (n:Nat) (r:Int):PE.orM (ltM r 0) (leM (n:Int) r)=!inN n r:=by
 unfold inN PE.orM ltM leM
 rw [Bool.not_not]
theorem del_ok {l:List Int} {n:Nat} (hl:l.length≤100000) :
  Option.bind (Option.bind (loopM (fun (s:Int)=>bif ltM s (lenM l) then (chkM s (lenM l)).bind fun r_2=>(idxM l s).bind fun r=>bif PE.orM (ltM r 0) (leM (n:Int) r) then some (Sum.inr (Sum.inr s)) else some (Sum.inl (IntKind.wrap .i64 (s+1))) else some (Sum.inr (Sum.inl ()))) 0) fun (o:Unit⊕Int)=>Sum.elim (fun (t:Unit)=>some (-1:Int)) (fun (t:Int)=>some t) o) (fun (ov:Int)=>bif eqM ov (-1) then some l else (loopM (fun (s:Int×Int×List Int)=>bif ltM s.2.1 (lenM s.2.2) then ((chkM s.2.1 (lenM s.2.2)).bind fun r_2=>(idxM s.2.2 s.2.1).bind fun r_3=>bif PE.notM (PE.orM (ltM r_3 0) (leM (n:Int) r_3)) then (chkM s.1 (lenM s.2.2)).bind fun r_4=>(setM s.2.2 s.1 fun (x:Int)=>some r_3).bind fun r=>some (IntKind.wrap .i64 (s.1+1),r) else some (s.1,s.2.2)).bind fun o=>some (Sum.inl (o.1,IntKind.wrap .i64 (s.2.1+1),o.2)) else some (Sum.inr (s.1,s.2.2))) (ov,IntKind.wrap .i64 (ov+1),l)).bind fun o_1=>(chkM o_1.1 (lenM o_1.2)).bind fun r_2=>(sliceM (clrM o_1.2 o_1.1 0) 0 o_1.1).bind fun r=>some r)=some (l.filter (inN n)):=by
 obtain ⟨o,h1,h2⟩:=find_loop (xs:=l) (fun r=>!inN n r) (body:=(fun (s:Int)=>bif ltM s (lenM l) then (chkM s (lenM l)).bind fun r_2=>(idxM l s).bind fun r=>bif PE.orM (ltM r 0) (leM (n:Int) r) then some (Sum.inr (Sum.inr s)) else some (Sum.inl (IntKind.wrap .i64 (s+1))) else some (Sum.inr (Sum.inl ())))) (fun k hk=>by
  rw [lenI,ltI (by omega),cT,chkM_of (by omega) (by omega),oB,idxM_lt hk,oB,bad_eq,wrap_in (by omega) (by omega)]
  cases (!inN n l[k])<;>rfl) (by
  rw [lenI,geI (by omega),cF])
 rw [h1,oB]
 rcases h2 with ⟨rfl,h2⟩ | ⟨k,hk,rfl,h2,h3⟩
 ·dsimp only [Sum.elim_inl,oB]
  rw [eqI rfl,cT,List.filter_eq_self.2 fun x hx=>?_]
  obtain ⟨i,hi,rfl⟩:=List.mem_iff_getElem.1 hx
  simpa using h2 i hi
 ·dsimp only [Sum.elim_inr,oB]
  rw [neI (by omega),cF,wrap_in (by omega) (by omega)]
  have hpre:(l.take (k+1)).filter (inN n)=l.take k:=by
   rw [List.take_succ_eq_append_getElem hk,List.filter_append,List.filter_eq_self.2 fun x hx=>?_]
   ·have:inN n l[k]=false:=by simpa using h2
    simp [this]
   ·obtain ⟨i,hi,rfl⟩:=List.mem_iff_getElem.1 hx
    rw [lT] at hi
    rw [List.getElem_take]
    simpa using h3 i (by omega)
  have hlen:∀ m,k+1+m≤l.length→((l.take (k+1+m)).filter (inN n)).length≤k+m:=fun m hm=>by
   rw [List.take_add,List.filter_append,lA,hpre,lT]
   have:=List.length_filter_le (inN n) ((l.drop (k+1)).take m)
   rw [lT] at this
   omega
  obtain ⟨o,e1,xs,rfl,q1,q2,q3⟩:Ans (loopM (fun (s:Int×Int×List Int)=>bif ltM s.2.1 (lenM s.2.2) then ((chkM s.2.1 (lenM s.2.2)).bind fun r_2=>(idxM s.2.2 s.2.1).bind fun r_3=>bif PE.notM (PE.orM (ltM r_3 0) (leM (n:Int) r_3)) then (chkM s.1 (lenM s.2.2)).bind fun r_4=>(setM s.2.2 s.1 fun (x:Int)=>some r_3).bind fun r=>some (IntKind.wrap .i64 (s.1+1),r) else some (s.1,s.2.2)).bind fun o=>some (Sum.inl (o.1,IntKind.wrap .i64 (s.2.1+1),o.2)) else some (Sum.inr (s.1,s.2.2))) ((k:Int),(k:Int)+1,l)) (fun o=>∃ xs,o=(((l.filter (inN n)).length:Int),xs)∧xs.take (l.filter (inN n)).length=l.filter (inN n)∧(l.filter (inN n)).length<l.length∧xs.length=l.length):=by
   refine Ans.loop (fun m st=>∃ xs,st=((((l.take (k+1+m)).filter (inN n)).length:Int),((k+1+m:Nat):Int),xs)∧xs.length=l.length∧xs.take ((l.take (k+1+m)).filter (inN n)).length=(l.take (k+1+m)).filter (inN n)∧xs.drop (k+1+m)=l.drop (k+1+m)∧k+1+m≤l.length) (l.length-(k+1)) ⟨l,?_,rfl,?_,rfl,by omega⟩ ?_
   ·rw [Nat.add_zero,hpre,lT,Nat.min_eq_left (by omega)];rfl
   ·rw [Nat.add_zero,hpre,lT,Nat.min_eq_left (by omega)]
   rintro m st hm ⟨xs,rfl,x1,x2,x3,x4⟩
   have hl2:=hlen m x4
   dsimp only
   rw [lenI,x1]
   by_cases hj:k+1+m<l.length
   ·have hxj:xs[k+1+m]'(by omega)=l[k+1+m]:=by
     have:=congrArg (fun (y:List Int)=>y[0]?) x3
     simp only [List.getElem?_drop,Nat.add_zero] at this
     rw [gE (by omega),gE hj] at this
     exact Option.some.inj this
    rw [ltI (by omega),cT,chkM_of (by omega) (by omega),oB,idxM_lt (by omega),oB,hxj,bad_eq]
    have hft:(l.take (k+1+(m+1))).filter (inN n)=(l.take (k+1+m)).filter (inN n)++[l[k+1+m]].filter (inN n):=by
     rw [show k+1+(m+1)=(k+1+m)+1 by omega,List.take_succ_eq_append_getElem hj,List.filter_append]
    cases hg:inN n l[k+1+m] with
    | true =>
     rw [show PE.notM (!true)=true from rfl,cT,chkM_of (by omega) (by omega),oB,setM_of (y:=l[k+1+m]) (by omega) (by omega) rfl,oB,oB,wrap_in (by omega) (by omega),wrap_in (by omega) (by omega)]
     have hft:(l.take (k+1+(m+1))).filter (inN n)=(l.take (k+1+m)).filter (inN n)++[l[k+1+m]]:=by
      rw [hft];simp [hg]
     refine Ans.some ⟨by omega,xs.set ((l.take (k+1+m)).filter (inN n)).length l[k+1+m],?_,by rw [List.length_set];exact x1,?_,?_,by omega⟩
     ·rw [hft,lA,Int.toNat_natCast]
      refine Prod.ext rfl (Prod.ext ?_ rfl)
      exact show ((k+1+m:Nat):Int)+1=((k+1+(m+1):Nat):Int) by omega
     ·rw [hft,lA,List.length_singleton,List.take_succ_eq_append_getElem (by rw [List.length_set];omega),List.getElem_set_self,List.take_set_of_le (nR _),x2]
     ·rw [List.drop_set_of_lt (by omega),show k+1+(m+1)=(k+1+m)+1 by omega,← List.drop_drop,x3,List.drop_drop]
    | false =>
     rw [show PE.notM (!false)=false from rfl,cF,oB,wrap_in (by omega) (by omega)]
     rw [show [l[k+1+m]].filter (inN n)=[] by simp [hg],List.append_nil] at hft
     refine Ans.some ⟨by omega,xs,?_,x1,by rw [hft];exact x2,?_,by omega⟩
     ·rw [hft]
      refine Prod.ext rfl (Prod.ext ?_ rfl)
      exact show ((k+1+m:Nat):Int)+1=((k+1+(m+1):Nat):Int) by omega
     ·rw [show k+1+(m+1)=(k+1+m)+1 by omega,← List.drop_drop,x3,List.drop_drop]
   ·rw [geI (by omega),cF]
    have he:k+1+m=l.length:=by omega
    rw [he,List.take_length] at x2 hl2 ⊢
    exact Ans.some ⟨xs,rfl,x2,by omega,x1⟩
  rw [e1,oB]
  dsimp only
  have hcl:(clrM xs ((l.filter (inN n)).length:Int) 0).length=l.length:=by
   unfold clrM
   rw [lA,lT,List.length_replicate,Int.toNat_natCast]
   omega
  rw [lenI,chkM_of (by omega) (by omega),oB,sliceM_of (by omega) (by omega) (by omega),oB,Int.toNat_natCast,show (0:Int).toNat=0 from rfl,List.drop_zero]
  unfold clrM
  rw [Int.toNat_natCast,List.take_left' (by rw [lT];omega),q1]
variable [EA]
variable {o:Bool} {L:Int} {du vi:Bs} {pd:List (Int×Bs)}
def torn (t:Int) (s:Bs):Bs:=if 0≤t then s.take (min t s.length).toNat else s
def cr (keep:List Int) (t:Int) (du:Bs):List (Int×Bs)→Bs
 | [(q,s)]=>if (0:Int)∈keep then spl du q.toNat (torn t s) else du
 | _=>du
def PdOk (n:Nat) (pd:List (Int×Bs)):Prop:=pd.length≤1∧∀ q s,(q,s)∈pd→0≤q∧q<n∧q+s.length≤n
theorem torn_len (t:Int) (s:Bs):(torn t s).length≤s.length:=by
 unfold torn
 split
 ·rw [lT];omega
 ·exact nR _
theorem cr_len {keep:List Int} {t:Int} (h:PdOk du.length pd):(cr keep t du pd).length=du.length:=by
 unfold cr
 split
 ·rename_i q s
  obtain ⟨h1,h2,h3⟩:=h.2 q s (by simp)
  have:=torn_len t s
  split
  ·rw [spl_len (by omega)]
  ·rfl
 ·rfl
theorem crash_ok {keep:List Int} {t:Int} (hk:keep.length≤1000) (ht:-9223372036854775808≤t∧t≤9223372036854775807) (h:PdOk du.length pd) (hv:vi.length=du.length) (hn:du.length≤100000) :
  m30 (keep,t,false,dk o L du vi pd)=some (0,false,0,nB (cr keep t du pd),nB (cr keep t du pd),[]):=by
 unfold m30 dk
 dsimp only [nonM,oB]
 have hloop:loopM (fun (s:Int×List Int)=>bif ltM s.1 (lenM keep) then (idxM keep s.1).bind fun r=>(appM (nat_lit 8) s.2 [r]).bind fun r=>some (Sum.inl (IntKind.wrap .i64 (s.1+1),r)) else some (Sum.inr s.2)) (0,[])=some keep:=by
  refine loopM_at (fun k=>((k:Int),keep.take k)) keep.length rfl (fun k hk2=>?_) ?_
  ·dsimp only
   rw [lenI,ltI (by omega),cT,idxM_lt hk2,oB,appM_of (by rw [lT];show (_+1)*8≤_;omega),oB,wrap_in (by omega) (by omega),List.take_succ_eq_append_getElem hk2]
   rfl
  ·dsimp only
   rw [lenI,geI (by omega),cF,List.take_length]
 rw [hloop,oB]
 have e1:sortI keep=some (isortI keep):=by unfold sortI;rw [dT (by omega)]
 have hsl:=(isortI_perm keep).length_eq
 have e2:compI (isortI keep)=some (okeep keep):=by unfold compI;rw [dT (by omega)];rfl
 rw [e1,oB,e2,oB]
 have hol:=okeep_len keep
 have hdel:=del_ok (l:=okeep keep) (n:=pd.length) (by omega)
 rw [one_keep h.1] at hdel
 rw [lenI pd,hdel,oB]
 have hcl:sliceM (zerosL pd ((0:Int),([]:Bs))) 0 0=some []:=clear_ok _ _
 match pd,h with
 | [],h =>
  rw [if_neg (fun x=>absurd x.1 (by simp))]
  refine bind_of (x:=nB du) ?_ ?_
  ·refine loopM_at (fun k=>((k:Int),nB du)) 0 rfl (fun k hk2=>absurd hk2 (by omega)) ?_
   try dsimp only
   rw [lenI,geI (by simp),cF]
  ·try dsimp only
   rw [clear_ok,oB,copy_eq hv]
   rfl
 | [(q,s)],h =>
  obtain ⟨h1,h2,h3⟩:=h.2 q s (by simp)
  have htl:=torn_len t s
  by_cases h0:(0:Int)∈keep
  ·rw [if_pos ⟨rfl,h0⟩]
   have hcr:cr keep t du [(q,s)]=spl du q.toNat (torn t s):=by show (if _ then _ else _)=_;rw [if_pos h0]
   refine bind_of (x:=nB (cr keep t du [(q,s)])) ?_ ?_
   ·refine loopM_at (fun k=>((k:Int),nB (if k=0 then du else cr keep t du [(q,s)]))) 1 rfl (fun k hk2=>?_) ?_
    ·obtain rfl:k=0:=by omega
     try dsimp only
     have hidx:idxM [(0:Int)] ((0:Nat):Int)=some 0:=rfl
     have hidx2:idxM [((q,s):Int×Bs)] 0=some (q,s):=rfl
     rw [if_pos rfl,lenI,ltI (by simp),cT,chkM_of (by simp) (by simp),oB,hidx,oB,chkM_of (by simp) (by simp [lenI]),oB,hidx2,oB]
     have hcond:eqM (((0:Nat):Int)) (IntKind.wrap .i64 (([(0:Int)].length:Int)-1))=true:=eqI rfl
     rw [hcond,andT]
     have hs':(bif leM 0 t then (sliceM s 0 (min t (lenM s))).bind fun r=>some (q,r) else some (q,s))=some (q,torn t s):=by
      unfold torn
      by_cases ht0:0≤t
      ·rw [leI ht0,cT,lenI,sliceM_of (by omega) (by omega) (by omega),oB,if_pos ht0]
       rfl
      ·rw [gtI (by omega),cF,if_neg ht0]
     rw [hs',oB]
     try dsimp only
     have hput:=put_ok (b:=du) (s:=torn t s) (p:=q.toNat) (by omega)
     rw [show ((q.toNat:Nat):Int)=q by omega] at hput
     rw [chkM_of h1 (by rw [lenN];omega),oB,hput,oB,hcr,wrap_in (by decide) (by decide)]
     rfl
    ·try dsimp only
     rw [if_neg (by decide),lenI,geI (by simp),cF]
   ·try dsimp only
    rw [clear_ok,oB,copy_eq (by rw [cr_len h,hv])]
  ·rw [if_neg (fun x=>h0 x.2)]
   have hcr:cr keep t du [(q,s)]=du:=by show (if _ then _ else _)=_;rw [if_neg h0]
   refine bind_of (x:=nB du) ?_ ?_
   ·refine loopM_at (fun k=>((k:Int),nB du)) 0 rfl (fun k hk2=>absurd hk2 (by omega)) ?_
    try dsimp only
    rw [lenI,geI (by simp),cF]
   ·try dsimp only
    rw [clear_ok,oB,copy_eq hv,hcr]
 | _::_::_,h=>exact absurd h.1 (by simp)
theorem pick_ok {c:Int} {n:Nat} (hc:IntKind.i64.has c) (hn:0<n):∃ k:Nat,k<n∧m14 (c,(n:Int))=some (k:Int):=by
 have h1:=pk_lo (c:=c) (n:=(n:Int)) (by omega)
 have h2:=pk_hi (c:=c) (n:=(n:Int)) (by omega)
 exact ⟨(pk c n).toNat,by omega,(pk_text (n:=(n:Int)) hc (by omega)).trans (congrArg some (show pk c (n:Int)=_ by omega))⟩
theorem siz_ok {c:Int} (hc:IntKind.i64.has c):∃ n:Nat,1≤n∧n≤1500∧m15 c=some (n:Int):=by
 obtain ⟨k,h1,h2⟩:=pick_ok (n:=1500) hc (by omega)
 refine ⟨1+k,by omega,by omega,?_⟩
 unfold m15
 rw [show (1500:Int)=((1500:Nat):Int) from rfl,h2,oB,wrap_in (by omega) (by omega)]
 exact congrArg some (by omega)
def fw (l:List Bs):List Bs:=(l.take 6).map fun s=>s.take 100
theorem fw_ok (l:List Bs):OkL (fw l)∧(fw l).length≤6:=by
 unfold fw
 refine ⟨fun r hr=>?_,by rw [List.length_map,lT];omega⟩
 obtain ⟨s,_,rfl⟩:=List.mem_map.1 hr
 rw [lT]
 omega
theorem few_ok {l:List Bs} (hl:l.length≤9223372036854775807) (hs:∀ s∈l,s.length≤9223372036854775807):m11 l=some (fw l):=by
 unfold m11 fw
 refine bind_of (x:=(l.take 6).map fun s=>s.take 100) ?_ rfl
 refine loopM_at (fun k=>((k:Int),(l.take k).map fun s=>s.take 100)) (min l.length 6) rfl (fun k hk=>?_) ?_
 ·have hkl:k<l.length:=by omega
  have:=hs _ (List.getElem_mem hkl)
  dsimp only
  rw [lenI,ltI (by omega),andT,ltI (by omega),cT,idxM_lt hkl,oB,oB,lenI,sliceM_of (by omega) (by omega) (by omega),oB,appM_of (by rw [List.length_map,lT];show (_+1)*16≤_;omega),oB,wrap_in (by omega) (by omega),List.take_succ_eq_append_getElem hkl,List.map_append]
  have:(l[k].take (min (l[k].length:Int) 100).toNat).drop (0:Int).toNat=l[k].take 100:=by
   rw [show (0:Int).toNat=0 from rfl,List.drop_zero]
   by_cases h:l[k].length≤100
   ·rw [tkL (by omega),tkL h]
   ·congr 1;omega
  rw [this]
  rfl
 ·have hz:(l.take (min l.length 6))=l.take 6:=by
   by_cases h:l.length≤6
   ·rw [Nat.min_eq_left h,List.take_length,tkL h]
   ·rw [Nat.min_eq_right (by omega)]
  dsimp only
  rw [hz]
  by_cases h:l.length<6
  ·rw [lenI,geI (by omega),andF,cF]
  ·by_cases h2:ltM ((min l.length 6:Nat):Int) (lenM l)=true
   ·rw [h2,andT,geI (by omega),cF]
   ·rw [Bool.eq_false_iff.2 h2,andF,cF]
theorem same_ok {a b:List Bs} (ha:a.length≤1000000):m18 (a,b)=some (decide (a=b)):=by
 unfold m18
 dsimp only
 rw [lenI,lenI]
 by_cases hl:a.length=b.length
 ·rw [eqI (by omega),notT,cF]
  have key:Ans (loopM (fun (s:Int)=>bif ltM s (lenM a) then (idxM a s).bind fun r=>(idxM b s).bind fun r_1=>bif PE.notM (eqsM r r_1) then some (Sum.inr (Sum.inr false)) else some (Sum.inl (IntKind.wrap .i64 (s+1))) else some (Sum.inr (Sum.inl ()))) 0) (fun (o:Unit⊕Bool)=>(o=.inl ()∧a=b)∨(o=.inr false∧a≠b)):=by
   refine Ans.loop (fun k s=>s=(k:Int)∧k≤a.length∧∀ i,i<k→a[i]? = b[i]?) a.length ⟨rfl,by omega,fun i hi=>by omega⟩ ?_
   rintro k s hk ⟨rfl,h2,h3⟩
   rw [lenI]
   by_cases hkl:k<a.length
   ·rw [ltI (by omega),cT,idxM_lt hkl,oB,idxM_lt (by omega),oB]
    by_cases e:a[k]=b[k]'(by omega)
    ·rw [eqsT e,notT,cF,wrap_in (by omega) (by omega)]
     refine Ans.some ⟨by omega,rfl,by omega,fun i hi=>?_⟩
     by_cases f:i=k
     ·subst f;rw [gE hkl,gE (by omega),e]
     ·exact h3 i (by omega)
    ·rw [eqsF e,notF,cT]
     refine Ans.some (.inr ⟨rfl,fun h=>e ?_⟩)
     subst h;rfl
   ·rw [geI (by omega),cF]
    refine Ans.some (.inl ⟨rfl,List.ext_getElem? fun i=>?_⟩)
    by_cases f:i<a.length
    ·exact h3 i (by omega)
    ·rw [List.getElem?_eq_none (by omega),List.getElem?_eq_none (by omega)]
  obtain ⟨o,h1,h2⟩:=key
  rw [h1,oB]
  rcases h2 with ⟨rfl,h2⟩ | ⟨rfl,h2⟩
  ·rw [dT h2];rfl
  ·rw [dF h2];rfl
 ·rw [neI (by omega),notF,cT,dF (fun e=>hl (by rw [e]))]
variable [EA]
def ct (n:Nat) (l:List Bs):Bs:=enc h0 l++List.replicate (n-(enc h0 l).length) 0
theorem ct_len {n:Nat} {l:List Bs} (h:(enc h0 l).length≤n):(ct n l).length=n:=by
 unfold ct
 rw [lA,List.length_replicate];omega
def Semi (n:Nat) (l:List Bs) (c:Bs):Prop:=OkL l∧c.length=n∧∃ z,Stop z∧c=enc h0 l++z
theorem semi_ct {n:Nat} {l:List Bs} (hl:OkL l) (h:(enc h0 l).length≤n):Semi n l (ct n l):=⟨hl,ct_len h,_,stop_zeros _,rfl⟩
theorem open_ct {n:Nat} {l:List Bs} {L:Int} (hl:OkL l) (hf:(enc h0 l).length≤n) (h0n:0<n) (hn:n≤100000) (hL:0≤L∧L≤1000):m25 (false,dk false L (ct n l) (ct n l) [])=some (0,false,L,nB (ct n l),nB (ct n l),false,hd h0 l,((enc h0 l).length:Int),false,l,[]):=by
 have hc:=ct_len hf
 obtain ⟨l',z',hr,hm⟩:=open_ok (L:=L) (du:=ct n l) (vi:=ct n l) (pd:=[]) (by omega) rfl (by omega) (by simp) hL
 have hst:=stop_zeros (n-(enc h0 l).length)
 obtain ⟨rfl,rfl⟩:=Rd.uniq (⟨hl,rfl,.inl hst⟩:Rd h0 (ct n l) l _) hr
 have hzs:Zs (List.replicate (n-(enc h0 l).length) (0:UInt8)):=by unfold Zs;rw [List.length_replicate]
 rcases hm with ⟨hb,_⟩ | ⟨_,_,hm⟩ | ⟨_,hz,_⟩ | ⟨_,hz,_⟩
 ·exact (hst.bad hb).elim
 ·exact hm
 ·exact absurd hzs hz
 ·exact absurd hzs hz
theorem spl_mid {a m z s:Bs} (h:s.length=m.length):spl (a++(m++z)) a.length s=a++(s++z):=by
 have e:(a++(m++z)).drop (a.length+m.length)=z:=by rw [← aA,← lA,List.drop_left' rfl]
 unfold spl
 rw [List.take_left' rfl,h,e]
theorem spl_nil (b:Bs) (p:Nat):spl b p []=b:=by
 unfold spl
 simp
theorem zeros_split {m k:Nat} (h:k≤m):(List.replicate m 0:Bs)=List.replicate k 0++List.replicate (m-k) 0:=by
 rw [List.replicate_append_replicate];congr 1;omega
section
variable {n:Nat} {r l:List Bs} {t:Bs}
theorem first_write (ht:enc (hd h0 r) l=1::t) (hf:(enc h0 r).length+(1::t:Bs).length≤n) {s:Bs} (hs:s.length≤t.length) :
  spl (ct n r) ((enc h0 r).length+1) s=enc h0 r++(0::(s++List.replicate (n-(enc h0 r).length-1-s.length) 0)):=by
 rw [List.length_cons] at hf
 unfold ct
 have e:(List.replicate (n-(enc h0 r).length) 0:Bs)=[0]++(List.replicate s.length 0++List.replicate (n-(enc h0 r).length-1-s.length) 0):=by
  rw [zeros_split (m:=n-(enc h0 r).length) (k:=1) (by omega),zeros_split (m:=n-(enc h0 r).length-1) (k:=s.length) (by omega)]
  rfl
 rw [e,← aA,show (enc h0 r).length+1=(enc h0 r++[0]).length by simp,spl_mid (by simp),aA]
 rfl
theorem second_write (ht:enc (hd h0 r) l=1::t) (hf:(enc h0 r).length+(1::t:Bs).length≤n) :
  spl (spl (ct n r) ((enc h0 r).length+1) t) (enc h0 r).length [1]=ct n (r++l):=by
 rw [first_write ht hf (nR _)]
 have:=spl_mid (a:=enc h0 r) (m:=[0]) (z:=t++List.replicate (n-(enc h0 r).length-1-t.length) 0) (s:=[1]) rfl
 rw [show (0::(t++List.replicate (n-(enc h0 r).length-1-t.length) 0):Bs)=[0]++(t++List.replicate (n-(enc h0 r).length-1-t.length) 0) from rfl,this]
 unfold ct
 rw [enc_app,ht,lA,List.length_cons,aA,show n-((enc h0 r).length+(t.length+1))=n-(enc h0 r).length-1-t.length by omega]
 rfl
theorem semi_first (hr:OkL r) (ht:enc (hd h0 r) l=1::t) (hf:(enc h0 r).length+(1::t:Bs).length≤n) {s:Bs} (hs:s.length≤t.length):Semi n r (spl (ct n r) ((enc h0 r).length+1) s):=by
 refine ⟨hr,?_,_,stop_cons _,first_write ht hf hs⟩
 rw [List.length_cons] at hf
 rw [spl_len (by rw [ct_len (by omega)];omega),ct_len (by omega)]
end
structure Aft (n:Nat) (was want:List Bs) (du vi:Bs) (pd:List (Int×Bs)):Prop where
 hpd:PdOk n pd
 hdu:du.length=n
 hvi:vi.length=n
 hcr:∀ keep t,Semi n was (cr keep t du pd)∨Semi n want (cr keep t du pd)
theorem app_clean {n:Nat} {r l:List Bs} {L:Int} (hr:OkL r) (hf:(enc h0 r).length≤n) (hn:n≤100000) (hl:OkL l) (hll:l.length≤1000) (hL:0≤L∧L≤1000) :
  (n<(enc h0 (r++l)).length∧m10 (l,false,hd h0 r,((enc h0 r).length:Int),false,r,false,dk false L (ct n r) (ct n r) [])=some (371,false,hd h0 r,((enc h0 r).length:Int),false,false,L,nB (ct n r),nB (ct n r),r,[])) ∨
  ((enc h0 (r++l)).length≤n∧∃ L',0≤L'∧L'≤1000∧(L=0→L'=0)∧m10 (l,false,hd h0 r,((enc h0 r).length:Int),false,r,false,dk false L (ct n r) (ct n r) [])=some (0,false,hd h0 (r++l),((enc h0 (r++l)).length:Int),false,false,L',nB (ct n (r++l)),nB (ct n (r++l)),r++l,[])) ∨
  (L≠0∧∃ L' du vi pd,0≤L'∧L'≤1000∧Aft n r (r++l) du vi pd∧m10 (l,false,hd h0 r,((enc h0 r).length:Int),false,r,false,dk false L (ct n r) (ct n r) [])=some (361,false,hd h0 r,((enc h0 r).length:Int),true,true,L',nB du,nB vi,r,pd)):=by
 have hle:=enc_le (h:=h0) r
 have hea:(enc h0 (r++l)).length=(enc h0 r).length+(enc (hd h0 r) l).length:=by rw [enc_app,lA]
 have hcl:=ct_len hf
 rw [app_ok (o:=false) (L:=L) (du:=ct n r) (vi:=ct n r) (pd:=[]) (hh:=hd h0 r) (p:=(enc h0 r).length) (recs:=r) (l:=l) (hd_len h0_len r) hl hll (by omega) (by omega) rfl (by omega) (by simp) hL,hcl]
 by_cases h1:n<(enc h0 r).length+(enc (hd h0 r) l).length
 ·exact .inl ⟨by omega,by rw [if_pos h1]⟩
 rw [if_neg h1]
 by_cases h2:l=[]
 ·subst h2
  refine .inr (.inl ⟨by omega,L,hL.1,hL.2,fun h=>h,?_⟩)
  rw [if_pos rfl,List.append_nil]
 rw [if_neg h2]
 obtain ⟨t,ht⟩:=enc_head (h:=hd h0 r) h2
 rw [ht] at h1 hea ⊢
 have hfit:(enc h0 r).length+(1::t:Bs).length≤n:=by omega
 have hrl:OkL (r++l):=hr.app hl
 have htl:(1::t:Bs).tail=t:=rfl
 have hlc:(1::t:Bs).length=t.length+1:=rfl
 have h21:=usd_in hL
 have hL0:(usd L).1=true→L≠0:=fun h e=>by subst e;cases h
 cases hu:(usd L).1 with
 | true =>
  have ha:apd false L (ct n r) (ct n r) [] (enc h0 r).length (1::t)=(361,true,(usd L).2,ct n r,spl (ct n r) ((enc h0 r).length+1) t,[((((enc h0 r).length+1:Nat):Int),t)]):=by
   unfold apd
   rw [if_neg (by decide),if_pos hu];rfl
  refine .inr (.inr ⟨hL0 hu,(usd L).2,ct n r,spl (ct n r) ((enc h0 r).length+1) t,[((((enc h0 r).length+1:Nat):Int),t)],h21.1,h21.2,⟨⟨by simp,fun q s h=>?_⟩,hcl,?_,fun keep x=>?_⟩,?_⟩)
  ·simp only [List.mem_singleton,Prod.mk.injEq] at h
   obtain ⟨rfl,rfl⟩:=h
   have h33:1≤s.length:=by
    cases l with
    | nil=>exact absurd rfl h2
    | cons a l =>
     have:=congrArg List.length ht
     rw [List.length_cons,show enc (hd h0 r) (a::l)=sto (hd h0 r) a++enc (chain (hd h0 r) a) l from rfl,lA,sto_len] at this
     omega
   omega
  ·rw [spl_len (by rw [hcl];omega),hcl]
  ·unfold cr
   dsimp only
   split
   ·rw [Int.toNat_natCast]
    exact .inl (semi_first hr ht hfit (torn_len _ _))
   ·exact .inl (semi_ct hr hf)
  ·rw [ha,if_neg (show ¬ ((361:Int)=0) by decide)]
 | false =>
  have hv1:(spl (ct n r) ((enc h0 r).length+1) t).length=n:=by rw [spl_len (by rw [hcl];omega),hcl]
  cases hu2:(usd (usd L).2).1 with
  | true =>
   have ha:apd false L (ct n r) (ct n r) [] (enc h0 r).length (1::t)=(361,true,(usd (usd L).2).2,spl (ct n r) ((enc h0 r).length+1) t,spl (spl (ct n r) ((enc h0 r).length+1) t) (enc h0 r).length [1],[(((enc h0 r).length:Int),[1])]):=by
    unfold apd
    rw [if_neg (by decide),hu,if_neg (by decide),if_pos hu2];rfl
   have h22:=usd_in h21
   refine .inr (.inr ⟨(fun e=>by subst e;cases hu2),(usd (usd L).2).2,spl (ct n r) ((enc h0 r).length+1) t,spl (spl (ct n r) ((enc h0 r).length+1) t) (enc h0 r).length [1],[(((enc h0 r).length:Int),[1])],h22.1,h22.2,⟨⟨by simp,fun q s h=>?_⟩,hv1,?_,fun keep x=>?_⟩,?_⟩)
   ·simp only [List.mem_singleton,Prod.mk.injEq] at h
    obtain ⟨rfl,rfl⟩:=h
    rw [show ([1]:Bs).length=1 from rfl]
    omega
   ·rw [second_write ht hfit,ct_len (by omega)]
   ·unfold cr
    dsimp only
    split
    ·rw [Int.toNat_natCast]
     have:torn x [1]=[]∨torn x [1]=[1]:=by
      have h3:=torn_len x [1]
      unfold torn at h3 ⊢
      split
      ·rcases Nat.eq_zero_or_pos (min x (([1]:Bs).length:Int)).toNat with e | e
       ·rw [e];exact .inl rfl
       ·rw [tkL (show ([1]:Bs).length≤_ from e)];exact .inr rfl
      ·exact .inr rfl
     rcases this with e | e
     ·rw [e,spl_nil]
      exact .inl (semi_first hr ht hfit (nR _))
     ·rw [e,second_write ht hfit]
      exact .inr (semi_ct hrl (by omega))
    ·exact .inl (semi_first hr ht hfit (nR _))
   ·rw [ha,if_neg (show ¬ ((361:Int)=0) by decide)]
  | false =>
   have ha:apd false L (ct n r) (ct n r) [] (enc h0 r).length (1::t)=(0,false,(usd (usd L).2).2,spl (spl (ct n r) ((enc h0 r).length+1) t) (enc h0 r).length [1],spl (spl (ct n r) ((enc h0 r).length+1) t) (enc h0 r).length [1],[]):=by
    unfold apd
    rw [if_neg (by decide),hu,if_neg (by decide),hu2,if_neg (by decide)];rfl
   have h22:=usd_in h21
   refine .inr (.inl ⟨by omega,(usd (usd L).2).2,h22.1,h22.2,(fun e=>by subst e;rfl),?_⟩)
   rw [ha,if_pos rfl,second_write ht hfit,hea,hd_app]
variable [EA]
section
variable {o:Bool} {L:Int} {du vi:Bs} {pd:List (Int×Bs)} {hh:Bs} {p n:Nat} {br:Bool} {recs r l:List Bs}
theorem new_u {n:Nat} (h1:1≤n) (h2:n≤10000):m24 (n:Int)=some (0,false,false,0,nB (ct n []),nB (ct n []),[]):=(new_ok (n:=(n:Int)) (by omega) (by omega)).trans (by rw [Int.toNat_natCast];rfl)
theorem open_u (hl:OkL l) (hf:(enc h0 l).length≤n) (h0n:0<n) (hn:n≤100000) (hL:0≤L∧L≤1000):m25 (false,false,L,nB (ct n l),nB (ct n l),[])=some (0,false,L,nB (ct n l),nB (ct n l),false,hd h0 l,((enc h0 l).length:Int),false,l,[]):=open_ct hl hf h0n hn hL
theorem recs_u {x:Int} (h:recs.length≤1000000):m19 (false,hh,x,br,recs,false,o,L,nB du,nB vi,pd)=some recs:=recs_ok h
theorem room_u (hp:p≤du.length) (hn:du.length≤100000):m20 (false,hh,(p:Int),br,recs,false,o,L,nB du,nB vi,pd)=some (((du.length-p:Nat):Int),o,L,nB du,nB vi,pd):=room_ok hp hn
theorem cut_u {c:Int} (h:0≤c):m29 (c,false,false,L,nB du,nB vi,pd)=some (0,decide (c=0),c):=cut_ok h
theorem cutoff_u {c:Int}:m29 (c,false,true,L,nB du,nB vi,pd)=some (361,true,L):=cut_off
theorem broken_u:m10 (l,false,hh,(p:Int),true,recs,false,o,L,nB du,nB vi,pd)=some (370,false,hh,(p:Int),true,o,L,nB du,nB vi,recs,pd):=app_broken
theorem app_u (hr:OkL r) (hf:(enc h0 r).length≤n) (hn:n≤100000) (hl:OkL l) (hll:l.length≤1000) (hL:0≤L∧L≤1000) :
  (n<(enc h0 (r++l)).length∧m10 (l,false,hd h0 r,((enc h0 r).length:Int),false,r,false,false,L,nB (ct n r),nB (ct n r),[])=some (371,false,hd h0 r,((enc h0 r).length:Int),false,false,L,nB (ct n r),nB (ct n r),r,[])) ∨
  ((enc h0 (r++l)).length≤n∧∃ L',0≤L'∧L'≤1000∧(L=0→L'=0)∧m10 (l,false,hd h0 r,((enc h0 r).length:Int),false,r,false,false,L,nB (ct n r),nB (ct n r),[])=some (0,false,hd h0 (r++l),((enc h0 (r++l)).length:Int),false,false,L',nB (ct n (r++l)),nB (ct n (r++l)),r++l,[])) ∨
  (L≠0∧∃ L' du vi pd,0≤L'∧L'≤1000∧Aft n r (r++l) du vi pd∧m10 (l,false,hd h0 r,((enc h0 r).length:Int),false,r,false,false,L,nB (ct n r),nB (ct n r),[])=some (361,false,hd h0 r,((enc h0 r).length:Int),true,true,L',nB du,nB vi,r,pd)):=app_clean hr hf hn hl hll hL
theorem fit_u (hr:OkL r) (hf:(enc h0 (r++l)).length≤n) (hn:n≤100000) (hl:OkL l) (hll:l.length≤1000):m10 (l,false,hd h0 r,((enc h0 r).length:Int),false,r,false,false,0,nB (ct n r),nB (ct n r),[])=some (0,false,hd h0 (r++l),((enc h0 (r++l)).length:Int),false,false,0,nB (ct n (r++l)),nB (ct n (r++l)),r++l,[]):=by
 have hf0:(enc h0 r).length≤n:=by rw [enc_app,lA] at hf;omega
 rcases app_u (n:=n) (L:=0) hr hf0 hn hl hll (by omega) with ⟨h,_⟩ | ⟨_,L',_,_,h,e⟩ | ⟨h,_⟩
 ·omega
 ·rw [e,h rfl]
 ·exact absurd rfl h
theorem full_u (hr:OkL r) (hf:(enc h0 r).length≤n) (hf2:n<(enc h0 (r++l)).length) (hn:n≤100000) (hl:OkL l) (hll:l.length≤1000):m10 (l,false,hd h0 r,((enc h0 r).length:Int),false,r,false,false,0,nB (ct n r),nB (ct n r),[])=some (371,false,hd h0 r,((enc h0 r).length:Int),false,false,0,nB (ct n r),nB (ct n r),r,[]):=by
 rcases app_u (n:=n) (L:=0) hr hf hn hl hll (by omega) with ⟨_,e⟩ | ⟨h,_⟩ | ⟨h,_⟩
 ·exact e
 ·omega
 ·exact absurd rfl h
end
theorem enc_sum:∀ (h:Bs) (l:List Bs),(enc h l).length=(l.map fun r=>(pS r).length+33).sum
 | _,[]=>rfl
 | h,r::l=>by
  show (sto h r++enc (chain h r) l).length=((pS r).length+33)+(l.map fun r=>(pS r).length+33).sum
  rw [lA,sto_len,enc_sum]
theorem pS_short {r:Bs} (h:r.length<64):(pS r).length=r.length+1:=by
 unfold pS pI zz
 rw [if_neg (by omega),lA,grp_lt (by omega)]
 simp;omega
theorem pS_mid {r:Bs} (h:64≤r.length) (h2:r.length<8192):(pS r).length=r.length+2:=by
 unfold pS pI zz
 rw [if_neg (by omega),lA,grp_ge (by omega),grp_lt (by omega)]
 simp;omega
theorem bad_two {z:Bs}:Bad h0 (2::z):=bad_byte (by decide) (by decide)
theorem open_two {L:Int} {du z:Bs} {pd:List (Int×Bs)} (h0n:0<du.length) (hv:(2::z:Bs).length=du.length) (hn:du.length≤100000) (hp:pd.length≤1000) (hL:0≤L∧L≤1000):m25 (false,false,L,nB du,nB (2::z),pd)=some (372,false,L,nB du,nB (2::z),true,[],0,false,[],pd):=by
 obtain ⟨l',z',hr,hm⟩:=open_ok h0n hv hn hp hL
 obtain ⟨rfl,rfl⟩:=Rd.uniq (⟨fun r h=>by simp at h,rfl,.inr bad_two⟩:Rd h0 (2::z) [] (2::z)) hr
 rcases hm with ⟨_,hm⟩ | ⟨hs,_⟩ | ⟨hs,_⟩ | ⟨hs,_⟩
 ·exact hm
 ·exact (hs.bad bad_two).elim
 ·exact (hs.bad bad_two).elim
 ·exact (hs.bad bad_two).elim
def zr (n:Nat):Bs:=List.replicate n 0
theorem sane_ok:m8 ()=some true:=by
 have ok1:OkL [([97,98]:Bs),[]]:=fun r h=>by simp at h;rcases h with rfl | rfl<;>decide
 have ok2:OkL [zr 95]:=fun r h=>by simp at h;subst h;rw [zr,List.length_replicate];omega
 have ok3:OkL [zr 96]:=fun r h=>by simp at h;subst h;rw [zr,List.length_replicate];omega
 have ok0:OkL ([]:List Bs):=fun r h=>by simp at h
 have p1:(enc h0 ([]++[([97,98]:Bs),[]])).length=70:=by
  rw [enc_sum,List.nil_append]
  simp only [List.map_cons,List.map_nil,List.sum_cons,List.sum_nil]
  rw [pS_short (by decide),pS_short (by decide)];rfl
 have p2:(enc h0 (([]++[([97,98]:Bs),[]])++[zr 95])).length=200:=by
  rw [enc_sum,List.nil_append]
  simp only [List.cons_append,List.nil_append,List.map_cons,List.map_nil,List.sum_cons,List.sum_nil]
  rw [pS_short (by decide),pS_short (by decide),pS_mid (by rw [zr,List.length_replicate];omega) (by rw [zr,List.length_replicate];omega),zr,List.length_replicate];rfl
 have p3:(enc h0 (([]++[([97,98]:Bs),[]])++[zr 96])).length=201:=by
  rw [enc_sum,List.nil_append]
  simp only [List.cons_append,List.nil_append,List.map_cons,List.map_nil,List.sum_cons,List.sum_nil]
  rw [pS_short (by decide),pS_short (by decide),pS_mid (by rw [zr,List.length_replicate];omega) (by rw [zr,List.length_replicate];omega),zr,List.length_replicate];rfl
 have z96:strB (List.replicate (96:Int).toNat 0)=zr 96:=strB_zero 96
 have z95:strB (List.replicate (95:Int).toNat 0)=zr 95:=strB_zero 95
 have hc1:(ct 200 ([]:List Bs)).length=200:=ct_len (by simp [enc])
 have hc2:(ct 200 ([]++[([97,98]:Bs),[]])).length=200:=ct_len (by omega)
 have hc3:(ct 200 (([]++[([97,98]:Bs),[]])++[zr 95])).length=200:=ct_len (by omega)
 have e0:(enc h0 ([]:List Bs)).length=0:=rfl
 have ok12:OkL (([]++[([97,98]:Bs),[]])++[zr 95]):=(ok0.app ok1).app ok2
 unfold m8
 rw [show (200:Int)=((200:Nat):Int) from rfl,new_u (by decide) (by decide),oB]
 dsimp only
 rw [open_u ok0 (by rw [e0];omega) (by omega) (by omega) (by omega),oB]
 dsimp only
 rw [notF,cT,eqI rfl,notT,orF,notF,cT,recs_u (by simp),oB,show eqM (lenM ([]:List Bs)) 0=true from rfl,notT,orF,notF,cT,room_u (by rw [e0];omega) (by rw [hc1];omega),oB,hc1,e0]
 dsimp only
 rw [show PE.orM false (PE.notM (eqM ((200-0:Nat):Int) ((200:Nat):Int)))=false from rfl,cF]
 have a1:=fit_u (n:=200) (r:=[]) (l:=[([97,98]:Bs),[]]) ok0 (by omega) (by omega) ok1 (by decide)
 rw [e0] at a1
 rw [a1,oB,mkM_of (by omega) (by omega) (by decide),oB,z96]
 dsimp only
 rw [full_u (n:=200) (r:=[]++[([97,98]:Bs),[]]) (l:=[zr 96]) (ok0.app ok1) (by omega) (by omega) (by omega) ok3 (by decide),oB]
 dsimp only
 rw [room_u (by rw [hc2];omega) (by rw [hc2];omega),oB,mkM_of (by omega) (by omega) (by decide),oB,z95,hc2]
 dsimp only
 rw [fit_u (n:=200) (r:=[]++[([97,98]:Bs),[]]) (l:=[zr 95]) (ok0.app ok1) (by omega) (by omega) ok2 (by decide),oB]
 dsimp only
 rw [open_u ok12 (by omega) (by omega) (by omega) (by omega),oB]
 dsimp only
 rw [cF]
 have w:=write_ok (L:=0) (du:=ct 200 (([]++[([97,98]:Bs),[]])++[zr 95])) (vi:=ct 200 (([]++[([97,98]:Bs),[]])++[zr 95])) (pd:=[]) (s:=[2]) (p:=0) (by omega) (by rw [hc3];decide) rfl (by omega) (by simp) (by omega)
 have hsp:spl (ct 200 (([]++[([97,98]:Bs),[]])++[zr 95])) 0 [2]=2::(ct 200 (([]++[([97,98]:Bs),[]])++[zr 95])).drop 1:=rfl
 rw [show m13 (0,[(2:UInt8)],false,false,0,nB (ct 200 (([]++[([97,98]:Bs),[]])++[zr 95])),nB (ct 200 (([]++[([97,98]:Bs),[]])++[zr 95])),[])=_ from w,hsp,oB]
 dsimp only
 rw [show (usd 0)=(false,0) from rfl]
 dsimp only
 rw [open_two (by omega) (by rw [List.length_cons,List.length_drop];omega) (by omega) (by simp) (by omega),oB]
 dsimp only
 rw [eqI rfl,cT,eqI rfl,andT,cT,p1,show eqM ((200-70:Nat):Int) 130=true from rfl,andT,cT,cT,room_u (by omega) (by omega),oB,hc3,p2]
 dsimp only
 rw [show eqM ((200-200:Nat):Int) 0=true from rfl,andT,cT,eqI rfl,cT,recs_u (by simp),oB,show PE.andM true (eqM (lenM (([]++[([97,98]:Bs),[]])++[zr 95])) 3)=true from rfl,cT]
 rfl
end Go.Proofs.YtobfnefajpiakaaGreatDoor
namespace Go.Ar
def hs:Bs→List Bs→List Bs
 | _,[]=>[]
 | h,r::l=>(2::(h++r))::hs (chain h r) l
end Go.Ar
namespace Go.Proofs.YtobfnefajpiakaaGreatDoor
open Go Go.Lib Go.Abs Go.PE Go.Ar
variable [EA]
theorem rHead_nil:m43 []=some h0:=by
 unfold m43
 rw [mkM_of (by omega) (by omega) (by decide),oB,show (32:Int).toNat=32 from rfl,strB_zero]
 refine bind_of (x:=h0) ?_ rfl
 rw [loopM_eq];rfl
variable [EA]
variable {o:Bool} {L:Int} {du vi:Bs} {pd:List (Int×Bs)} {n:Nat}
def app (du:Bs) (pd:List (Int×Bs)):Bs:=pd.foldl (fun b w=>spl b w.1.toNat w.2) du
def PdIn (n:Nat) (pd:List (Int×Bs)):Prop:=pd.length≤1000∧∀ w∈pd,0≤w.1∧w.1+w.2.length≤n
theorem app_len:∀ {pd:List (Int×Bs)} {du:Bs},(∀ w∈pd,0≤w.1∧w.1+w.2.length≤n)→du.length=n→(app du pd).length=n
 | [],_,_,h=>h
 | w::pd,du,h,hd=>app_len (pd:=pd) (du:=spl du w.1.toNat w.2) (fun x hx=>h x (by simp [hx])) (by have:=h w (by simp);rw [spl_len (by omega),hd])
theorem app_snoc (du:Bs) (pd:List (Int×Bs)) (w:Int×Bs):app du (pd++[w])=spl (app du pd) w.1.toNat w.2:=by unfold app;rw [List.foldl_append];rfl
theorem nB_set {b:Bs} {i:Nat} {c:UInt8}:(nB b).set i (c.toNat:Int)=nB (b.set i c):=by unfold nB;rw [List.map_set]
theorem apply_ok {b s:Bs} {p:Int} (hp:0≤p) (h:p+s.length≤b.length) (hb:b.length≤1000000) :
  loopM (fun (s_1:Int×List Int)=>bif ltM s_1.1 (lenM s) then (byteM s s_1.1).bind fun r_5=>(chkM (IntKind.wrap .i64 (p+s_1.1)) (lenM s_1.2)).bind fun r_6=>(setM s_1.2 (IntKind.wrap .i64 (p+s_1.1)) fun (x:Int)=>some r_5).bind fun r=>some (Sum.inl (IntKind.wrap .i64 (s_1.1+1),r)) else some (Sum.inr s_1.2)) (0,nB b)=some (nB (spl b p.toNat s)):=by
 refine loopM_at (fun k=>((k:Int),nB (spl b p.toNat (s.take k)))) s.length (by simp [spl_nil]) (fun k hk=>?_) ?_
 ·have hl:(spl b p.toNat (s.take k)).length=b.length:=spl_len (by rw [lT];omega)
  dsimp only
  rw [lenI,ltI (by omega),cT,byteM_of (gE hk),oB,wrap_in (by omega) (by omega),chkM_of (by omega) (by rw [lenN,hl];omega),oB,setM_of (y:=(s[k].toNat:Int)) (by omega) (by rw [nB_len,hl];omega) rfl,oB,wrap_in (by omega) (by omega),nB_set]
  have:(spl b p.toNat (s.take k)).set (p+(k:Int)).toNat s[k]=spl b p.toNat (s.take (k+1)):=by
   unfold spl
   have e1:(b.take p.toNat).length=p.toNat:=by rw [lT];omega
   have e2:(s.take k).length=k:=by rw [lT];omega
   rw [List.set_append_right _ _ (by rw [e1];omega),e1,List.set_append_right _ _ (by rw [e2];omega),e2,show (p+(k:Int)).toNat-p.toNat-k=0 by omega,List.take_succ_eq_append_getElem hk,lA,e2,List.length_singleton,aA]
   have e3:b.drop (p.toNat+k)=b[p.toNat+k]'(by omega)::b.drop (p.toNat+k+1):=List.drop_eq_getElem_cons (by omega)
   rw [e3]
   rfl
  rw [this]
  rfl
 ·dsimp only
  rw [lenI,geI (by omega),cF,List.take_length]
theorem rvis_ok (hd1:du.length=n) (hn:n≤100000) (hp:PdIn n pd):m23 (false,o,L,nB du,pd)=some (nB (app du pd)):=by
 unfold m23
 dsimp only [nonM,oB]
 rw [appM_of (by rw [nB_len];show (0+du.length)*1≤_;omega),oB,List.nil_append]
 refine bind_of (x:=nB (app du pd)) ?_ rfl
 refine loopM_at (fun k=>((k:Int),nB (app du (pd.take k)))) pd.length rfl (fun k hk=>?_) ?_
 ·have hw:=hp.2 _ (List.getElem_mem hk)
  have hpl:=hp.1
  have hl:(app du (pd.take k)).length=n:=app_len (fun w hw=>hp.2 w (List.mem_of_mem_take hw)) hd1
  dsimp only
  rw [lenI,ltI (by omega),cT,chkM_of (by omega) (by omega),oB,idxM_lt hk,oB,oB,oB,oB,oB,apply_ok hw.1 (by omega) (by omega),oB,wrap_in (by omega) (by omega),List.take_succ_eq_append_getElem hk,app_snoc]
  rfl
 ·dsimp only
  rw [lenI,geI (by omega),cF,List.take_length]
theorem rnew_ok {n:Nat} (h1:1≤n) (h2:n≤10000):m33 (n:Int)=some (0,false,false,0,nB (ct n []),[]):=by
 unfold m33
 rw [geI (by omega),geI (by omega),orF,cF,mkM_of (by omega) (by omega) (by show (n:Int)*1≤_;omega),oB,nB_zero,Int.toNat_natCast]
 rfl
theorem rread_ok (hd1:du.length=n) (hn:n≤100000) (hp:PdIn n pd):m74 (0,(n:Int),false,false,L,nB du,pd)=some (app du pd,0,false,L,nB du,pd):=by
 unfold m74
 dsimp only [nonM,oB,cF]
 have hl:=app_len hp.2 hd1
 rw [lenN,hd1,wrap_in (n:=(n:Int)-0) (by omega) (by omega),geI (by omega),geI (by omega),geI (by omega),orF,orF,orF,cF,rvis_ok hd1 hn hp,oB,wrap_in (by omega) (by omega),sliceM_of (by omega) (by omega) (by rw [nB_len];omega),oB]
 have:((nB (app du pd)).take ((0:Int)+(n:Int)).toNat).drop (0:Int).toNat=nB (app du pd):=by
  rw [show (0:Int).toNat=0 from rfl,List.drop_zero,tkL (by rw [nB_len];omega)]
 rw [this,strB_nB]
theorem rread_off {p k:Int}:m74 (p,k,false,true,L,nB du,pd)=some ([],361,true,L,nB du,pd):=by
 unfold m74
 dsimp only [nonM,oB,cT]
theorem rwrite_ok {s:Bs} {p:Nat} (h:p+s.length≤du.length) (hn:du.length≤1000000) (hp:pd.length≤1000) (hL:0≤L∧L≤1000) :
  m16 ((p:Int),s,false,false,L,nB du,pd)=some (0,(usd L).1,(usd L).2,pd++[((p:Int),s)]):=by
 unfold m16
 dsimp only [nonM,oB,cF]
 rw [lenN,lenI,geI (by omega),geI (by omega),wrap_in (by omega) (by omega),geI (by omega),orF,orF,cF,appM_of (by show (pd.length+1)*24≤_;omega),oB]
 unfold usd
 by_cases hz:L=0
 ·subst hz
  rfl
 ·rw [ltI (by omega),cT,if_neg hz,wrap_in (by omega) (by omega)]
  by_cases h1:L-1=0
  ·rw [eqI h1,cT,dT h1];rfl
  ·rw [neI h1,cF,dF h1];rfl
theorem rwrite_off {p:Int} {s:Bs}:m16 (p,s,false,true,L,nB du,pd)=some (361,true,L,pd):=by
 unfold m16
 dsimp only [nonM,oB,cT]
theorem rsync_ok (hd1:du.length=n) (hn:n≤100000) (hp:PdIn n pd):m45 (false,false,L,nB du,pd)=some (0,false,L,nB (app du pd),[]):=by
 unfold m45
 dsimp only [nonM,oB,cF]
 rw [rvis_ok hd1 hn hp,oB]
theorem rsync_off:m45 (false,true,L,nB du,pd)=some (361,true,L,nB du,pd):=by
 unfold m45
 dsimp only [nonM,oB,cT]
theorem rroom_ok {p:Nat} {br:Bool} {recs:List Bs} (hp:p≤du.length) (hn:du.length≤1000000):m21 (false,(p:Int),br,false,o,L,nB du,pd,recs)=some ((du.length-p:Nat):Int):=by
 unfold m21
 dsimp only [nonM,oB]
 rw [lenN,wrap_in (by omega) (by omega),show (du.length:Int)-(p:Int)=((du.length-p:Nat):Int) by omega]
variable [EA]
variable {o:Bool} {L:Int} {du vi:Bs} {pd:List (Int×Bs)} {n:Nat}
def LrQ (s:Bs) (o:(Int×Bool×List Bs)⊕(Int×Int×Bool×List Bs)):Prop:=∃ l z,Rd h0 s l z∧((Stop z∧o=.inl (((enc h0 l).length:Int),false,l))∨(Bad (hd h0 l) z∧∃ y,o=.inr (372,y)))
theorem rload_ok {s:Bs} (hs:s.length≤100000):Ans (loopM (fun (st:List UInt8×Int×Bool×List (List UInt8))=>(bif ltM st.2.1 (s.length:Int) then byteM s st.2.1 else some 0).bind fun r_2=>bif PE.andM (ltM st.2.1 (s.length:Int)) (PE.notM (eqM r_2 0)) then (m75 (s,IntKind.wrap .i64 (st.2.1+1))).bind fun r_3=>(byteM s st.2.1).bind fun r_4=>bif PE.orM (PE.notM (eqM r_4 1)) (PE.notM (eqM r_3.2.2 0)) then some (Sum.inr (Sum.inr (372,st.2.1,st.2.2.1,st.2.2.2))) else (m57 (st.1,r_3.1)).bind fun r_5=>(bif PE.notM (ltM (s.length:Int) (IntKind.wrap .i64 (r_3.2.1+32))) then sliceM s r_3.2.1 (IntKind.wrap .i64 (r_3.2.1+32)) else some []).bind fun r_6=>bif PE.orM (ltM (s.length:Int) (IntKind.wrap .i64 (r_3.2.1+32))) (PE.notM (eqsM r_6 r_5)) then some (Sum.inr (Sum.inr (372,st.2.1,st.2.2.1,st.2.2.2))) else (appM (nat_lit 16) st.2.2.2 [r_3.1]).bind fun r=>some (Sum.inl (r_5,IntKind.wrap .i64 (r_3.2.1+32),st.2.2.1,r)) else some (Sum.inr (Sum.inl (st.2.1,st.2.2.1,st.2.2.2)))) (h0,0,false,[])) (LrQ s):=by
 refine Ans.loop (fun k st=>∃ l t,OkL l∧s=enc h0 l++t∧st=(hd h0 l,((enc h0 l).length:Int),false,l)∧l.length=k) s.length ⟨[],s,(fun r hr=>by simp at hr),rfl,rfl,rfl⟩ ?_
 rintro k st hk ⟨l,t,hl,hst,rfl,hlk⟩
 have hsl:s.length=(enc h0 l).length+t.length:=by rw [hst,lA]
 have hle:=enc_le (h:=h0) l
 have hdr:s.drop (enc h0 l).length=t:=by rw [hst,List.drop_left'];rfl
 dsimp only
 cases t with
 | nil =>
  rw [geI (by simp at hsl;omega),cF,oB,andF,cF]
  exact Ans.some ⟨l,[],⟨hl,hst,.inl fun b hb=>by cases hb⟩,.inl ⟨fun b hb=>(by cases hb),rfl⟩⟩
 | cons b t =>
  simp only [List.length_cons] at hsl
  have hb:s[(enc h0 l).length]? = some b:=by
   have:=congrArg (fun x:Bs=>x[0]?) hdr
   simpa using this
  rw [ltI (by omega),cT,byteM_of hb,oB,andT]
  by_cases hb0:b=0
  ·subst hb0
   rw [show eqM ((0:UInt8).toNat:Int) 0=true from rfl,notT,cF]
   exact Ans.some ⟨l,_,⟨hl,hst,.inl (stop_cons t)⟩,.inl ⟨stop_cons t,rfl⟩⟩
  have hb0':(b.toNat:Int)≠0:=fun e=>hb0 (u8eq (show b.toNat=(0:UInt8).toNat by rw [show (0:UInt8).toNat=0 from rfl];omega))
  rw [neI hb0',notF,cT,wrap_in (by omega) (by omega)]
  have hdr1:s.drop ((enc h0 l).length+1)=t:=by rw [← List.drop_drop,hdr];rfl
  obtain ⟨r3,e3,q3⟩:=rStr_ok (s:=s) (p:=(enc h0 l).length+1) (by omega) (by omega)
  rw [show (((enc h0 l).length:Int)+1)=(((enc h0 l).length+1:Nat):Int) by omega,e3,oB,oB]
  by_cases hb1:b=1
  ·subst hb1
   rw [show eqM ((1:UInt8).toNat:Int) 1=true from rfl,notT,orF]
   rcases q3.cases with ⟨u,k2,hu,rfl⟩ | ⟨hu,rfl⟩
   ·rw [hdr1] at hu
    have hkt:=hu.le.1
    have hte:=hu.le.2
    have hk2:=hu.2.1
    have hu1:=hu.1
    have hps:=pS_len hu1
    have hhd:=hd_len h0_len l
    dsimp only
    rw [eqI rfl,notT,cF,rChain_ok (by omega),oB,wrap_in (by omega) (by omega)]
    by_cases hfit:(enc h0 l).length+1+k2+32≤s.length
    ·rw [geI (by omega),notF,cT,sliceM_of (by omega) (by omega) (by omega),oB,orF]
     have hsl2:(s.take (((((enc h0 l).length+1+k2:Nat):Int)+32).toNat)).drop (((enc h0 l).length+1+k2:Nat):Int).toNat=(t.drop k2).take 32:=by
      rw [List.drop_take,Int.toNat_natCast,← List.drop_drop,hdr1]
      congr 1
      omega
     have htk:(1::t:Bs).take (k2+33)=1::(pS u++(t.drop k2).take 32):=by
      rw [show k2+33=(k2+32)+1 by omega,List.take_succ_cons]
      congr 1
      conv=>lhs;rw [hte]
      rw [List.take_append,tkL (by omega),hk2,show (pS u).length+32-(pS u).length=32 by omega]
     rw [hsl2]
     by_cases heq:(t.drop k2).take 32=chain (hd h0 l) u
     ·have hsto:(1::t:Bs).take (k2+33)=sto (hd h0 l) u:=by rw [htk,heq];rfl
      have hlen:=congrArg List.length hsto
      rw [sto_len,lT,List.length_cons] at hlen
      rw [eqsT heq,notT,cF,appM_of (by show (l.length+1)*16≤_;omega),oB]
      refine Ans.some ⟨by omega,l++[u],(1::t:Bs).drop (k2+33),hl.app fun x hx=>?_,?_,?_,?_⟩
      ·simp at hx;subst hx;exact hu1
      ·rw [enc_snoc,aA,← hsto,List.take_append_drop];exact hst
      ·rw [hd_snoc,enc_snoc,lA,sto_len]
       refine Prod.ext rfl (Prod.ext ?_ rfl)
       show (((enc h0 l).length+1+k2:Nat):Int)+32=(((enc h0 l).length+((pS u).length+33):Nat):Int)
       omega
      ·rw [lA];simp;omega
     ·rw [eqsF heq,notF,cT]
      have hb2:Bad (hd h0 l) (1::t):=bad_one hu fun hp=>by
       obtain ⟨_,h2,_⟩:=sto_isS hu1 hp
       rw [← hk2,htk] at h2
       exact heq (List.append_cancel_left (List.cons.inj h2).2)
      exact Ans.some ⟨l,_,⟨hl,hst,.inr hb2⟩,.inr ⟨hb2,_,rfl⟩⟩
    ·rw [ltI (by omega),notT,cF,oB,orT,cT]
     have hb2:Bad (hd h0 l) (1::t):=bad_one hu fun hp=>by
      obtain ⟨h1,_,h2⟩:=sto_isS hu.1 hp
      simp only [List.length_cons] at h2
      omega
     exact Ans.some ⟨l,_,⟨hl,hst,.inr hb2⟩,.inr ⟨hb2,_,rfl⟩⟩
   ·rw [hdr1] at hu
    rw [neI (by decide),notF,cT]
    exact Ans.some ⟨l,_,⟨hl,hst,.inr (bad_none hu)⟩,.inr ⟨bad_none hu,_,rfl⟩⟩
  ·have hb1':(b.toNat:Int)≠1:=fun e=>hb1 (u8eq (show b.toNat=(1:UInt8).toNat by rw [show (1:UInt8).toNat=1 from rfl];omega))
   rw [neI hb1',notF,orT,cT]
   exact Ans.some ⟨l,_,⟨hl,hst,.inr (bad_byte hb0 hb1)⟩,.inr ⟨bad_byte hb0 hb1,_,rfl⟩⟩
theorem ropen_off:m50 (false,true,L,nB du,pd)=some (361,true,L,true,0,false,[],nB du,pd):=by
 unfold m50
 dsimp only [nonM,oB]
 rw [rread_off,oB]
 dsimp only
 rw [neI (by decide),notF,cT]
theorem ropen_ok (h0n:0<n) (hd1:du.length=n) (hn:n≤100000) (hp:PdIn n pd) (hp2:pd.length≤100) (hL:0≤L∧L≤1000):∃ l z,Rd Ar.h0 (app du pd) l z ∧
  ((Bad (hd Ar.h0 l) z∧m50 (false,false,L,nB du,pd)=some (372,false,L,true,0,false,[],nB du,pd)) ∨
  (Stop z∧Zs z∧m50 (false,false,L,nB du,pd)=some (0,false,L,false,((enc Ar.h0 l).length:Int),false,l,nB du,pd)) ∨
  (Stop z∧¬ Zs z∧(usd L).1=true∧m50 (false,false,L,nB du,pd)=some (361,true,(usd L).2,true,0,false,[],nB du,pd++[(((enc Ar.h0 l).length:Int),List.replicate z.length 0)])) ∨
  (Stop z∧¬ Zs z∧(usd L).1=false∧m50 (false,false,L,nB du,pd)=some (0,false,(usd L).2,false,((enc Ar.h0 l).length:Int),false,l,nB (enc Ar.h0 l++List.replicate z.length 0),[]))):=by
 have hvl:=app_len hp.2 hd1
 obtain ⟨o,ho,l,z,hr,hq⟩:=rload_ok (s:=app du pd) (by omega)
 have hvz:(app du pd).length=(enc Ar.h0 l).length+z.length:=by rw [hr.2.1,lA]
 refine ⟨l,z,hr,?_⟩
 unfold m50
 dsimp only [nonM,oB]
 rw [lenN,hd1,rread_ok hd1 hn hp,oB]
 dsimp only
 rw [eqI rfl,notT,cF,rHead_nil,oB]
 rw [hvl] at ho
 rw [ho,oB]
 rcases hq with ⟨hs,rfl⟩ | ⟨hb,⟨y1,y2,y3⟩,rfl⟩
 ·dsimp only [Sum.elim_inl]
  have hsl:sliceM (app du pd) ((enc Ar.h0 l).length:Int) (lenM (app du pd))=some z:=by
   rw [lenI,sliceM_of (by omega) (by omega) (by omega),Int.toNat_natCast,Int.toNat_natCast,List.take_length,hr.2.1,List.drop_left' rfl]
  rw [wrap_in (by omega) (by omega),mkM_of (by omega) (by omega) (by show _*1≤_;omega),oB,show ((n:Int)-((enc Ar.h0 l).length:Int)).toNat=z.length by omega,strB_zero,hsl,oB]
  by_cases hz:Zs z
  ·refine .inr (.inl ⟨hs,hz,?_⟩)
   rw [eqsT hz,notT,cF,oB]
   rfl
  ·rw [eqsF hz,notF,cT,rwrite_ok (by rw [List.length_replicate];omega) (by omega) (by omega) hL,oB]
   dsimp only
   rw [eqI rfl,cT]
   cases hu:(usd L).1 with
   | true =>
    refine .inr (.inr (.inl ⟨hs,hz,rfl,?_⟩))
    rw [rsync_off,oB,oB]
    dsimp only
    rw [neI (by decide),notF,cT,oB]
    rfl
   | false =>
    refine .inr (.inr (.inr ⟨hs,hz,rfl,?_⟩))
    have hpin:PdIn n (pd++[(((enc Ar.h0 l).length:Int),(List.replicate z.length 0:Bs))]):=⟨by rw [lA];simp;omega,fun w hw=>by
     rcases List.mem_append.1 hw with hw | hw
     ·exact hp.2 w hw
     ·simp only [List.mem_singleton] at hw
      subst hw
      simp only [List.length_replicate]
      omega⟩
    have hap:app du (pd++[(((enc Ar.h0 l).length:Int),(List.replicate z.length 0:Bs))])=enc Ar.h0 l++List.replicate z.length 0:=by
     rw [app_snoc,hr.2.1,Int.toNat_natCast];exact spl_end (by simp)
    rw [rsync_ok hd1 hn hpin,oB,oB,hap]
    dsimp only
    rw [eqI rfl,notT,cF,oB]
    rfl
 ·refine .inl ⟨hb,?_⟩
  rfl
variable [EA]
variable {o:Bool} {L:Int} {du vi:Bs} {pd:List (Int×Bs)} {n p:Nat} {br:Bool} {recs l:List Bs}
theorem rHead_all {l:List Bs} (hl:OkL l) (hn:l.length≤100000):m43 l=some (hd h0 l):=by
 unfold m43
 rw [mkM_of (by omega) (by omega) (by decide),oB,show (32:Int).toNat=32 from rfl,strB_zero]
 refine bind_of (x:=hd h0 l) ?_ rfl
 refine loopM_at (fun k=>(hd h0 (l.take k),(k:Int))) l.length rfl (fun k hk=>?_) ?_
 ·have h1:=hl _ (List.getElem_mem hk)
  have h2:=hd_len h0_len (l.take k)
  dsimp only
  rw [lenI,ltI (by omega),cT,idxM_lt hk,oB,rChain_ok (by omega),oB,wrap_in (by omega) (by omega),List.take_succ_eq_append_getElem hk,hd_snoc]
  rfl
 ·dsimp only
  rw [lenI,geI (by omega),cF,List.take_length]
theorem rstored_ok {h r:Bs} (hh:h.length=32) (hr:r.length≤65536):m44 (h,r)=some (sto h r,chain h r):=by
 unfold m44
 dsimp only
 have hps:=pS_len hr
 rw [rChain_ok (by omega),oB,rPutS_ok hr,oB]
 dsimp only
 rw [catM_of (by simp;omega),oB,catM_of (by simp [chain_len];omega),oB]
 rfl
theorem rapp_broken:m12 (l,false,(p:Int),true,false,o,L,nB du,pd,recs)=some (370,(p:Int),true,o,L,recs,nB du,pd):=by
 unfold m12
 dsimp only [nonM,oB,cT]
theorem rapp_ok (hl:OkL l) (hll:l.length≤1000) (hro:OkL recs) (hr:recs.length≤100000) (hp:p≤du.length) (hd1:du.length=n) (hn:n≤100000) (hpd:PdIn n pd) (hp2:pd.length≤100) (hL:0≤L∧L≤1000) :
  m12 (l,false,(p:Int),false,false,o,L,nB du,pd,recs) =
  some (if du.length<p+(enc (hd h0 recs) l).length then (371,(p:Int),false,o,L,recs,nB du,pd) else
   if l=[] then (0,(p:Int),false,o,L,recs,nB du,pd) else
   if (apd o L du (app du pd) pd p (enc (hd h0 recs) l)).1=0 then (0,((p+(enc (hd h0 recs) l).length:Nat):Int),false,(apd o L du (app du pd) pd p (enc (hd h0 recs) l)).2.1,(apd o L du (app du pd) pd p (enc (hd h0 recs) l)).2.2.1,recs++l,nB (apd o L du (app du pd) pd p (enc (hd h0 recs) l)).2.2.2.1,(apd o L du (app du pd) pd p (enc (hd h0 recs) l)).2.2.2.2.2) else
   ((apd o L du (app du pd) pd p (enc (hd h0 recs) l)).1,(p:Int),true,(apd o L du (app du pd) pd p (enc (hd h0 recs) l)).2.1,(apd o L du (app du pd) pd p (enc (hd h0 recs) l)).2.2.1,recs,nB (apd o L du (app du pd) pd p (enc (hd h0 recs) l)).2.2.2.1,(apd o L du (app du pd) pd p (enc (hd h0 recs) l)).2.2.2.2.2)):=by
 have hhl:=hd_len h0_len recs
 unfold m12
 dsimp only [nonM,oB]
 rw [cF,rHead_all hro hr,oB]
 generalize hd h0 recs=hh at hhl ⊢
 have hbd:=enc_bound (h:=hh) hl
 have hloop:loopM (fun (s:List UInt8×List UInt8×Int)=>bif ltM s.2.2 (lenM l) then (idxM l s.2.2).bind fun r_1=>bif ltM 65536 (lenM r_1) then some (Sum.inr (Sum.inr 370)) else (idxM l s.2.2).bind fun r_2=>(m44 (s.2.1,r_2)).bind fun r_3=>(catM s.1 r_3.1).bind fun r=>some (Sum.inl (r,r_3.2,IntKind.wrap .i64 (s.2.2+1))) else some (Sum.inr (Sum.inl s.1))) ([],hh,0)=some (Sum.inl (enc hh l):Bs⊕Int):=by
  refine loopM_at (fun k=>(enc hh (l.take k),hd hh (l.take k),(k:Int))) l.length rfl (fun k hk=>?_) ?_
  ·have hkl:=hl _ (List.getElem_mem hk)
   have hps:=pS_len hkl
   have hb2:=enc_bound (h:=hh) (l:=l.take k) fun x hx=>hl x (List.mem_of_mem_take hx)
   have hb3:(l.take k).length≤1000:=by rw [lT];omega
   have hhd:=hd_len hhl (l.take k)
   dsimp only
   rw [lenI,ltI (by omega),cT,idxM_lt hk,oB,lenI,geI (by omega),cF,oB,rstored_ok hhd hkl,oB]
   dsimp only
   rw [catM_of (by rw [sto_len];omega),oB,wrap_in (by omega) (by omega),(enc_step hk).1,(enc_step hk).2]
   rfl
  ·dsimp only
   rw [lenI,geI (by omega),cF,List.take_length]
 rw [hloop,oB]
 dsimp only [Sum.elim_inl]
 rw [rroom_ok hp (by omega),oB,lenI]
 by_cases hfit:du.length<p+(enc hh l).length
 ·rw [if_pos hfit,ltI (by omega),cT]
 rw [if_neg hfit,geI (by omega),cF]
 by_cases hnil:l=[]
 ·subst hnil
  rw [if_pos rfl,show enc hh []=[] from rfl,eqsT rfl,cT]
 rw [if_neg hnil,eqsF (fun e=>hnil (enc_nil.1 e)),cF]
 obtain ⟨t,ht⟩:=enc_head (h:=hh) hnil
 rw [ht] at hfit ⊢
 rw [List.length_cons] at hfit
 have hvl:=app_len hpd.2 hd1
 rw [sliceM_of (by omega) (by rw [List.length_cons];omega) (by rw [List.length_cons];omega),oB,Int.toNat_natCast,List.take_length,show (1:Int).toNat=1 from rfl,List.drop_one,List.tail_cons,wrap_in (by omega) (by omega),show ((p:Int)+1)=((p+1:Nat):Int) by omega]
 have h01:sliceM (1::t:Bs) 0 1=some [1]:=by
  rw [sliceM_of (by omega) (by omega) (by rw [List.length_cons];omega)];rfl
 have happ2:appM (nat_lit 16) ([]:List Bs) recs=some recs:=by rw [appM_of (by show (0+recs.length)*16≤_;omega)];rfl
 have happ3:appM (nat_lit 16) recs l=some (recs++l):=appM_of (by show (recs.length+l.length)*16≤_;omega)
 cases o with
 | true =>
  have ha:apd true L du (app du pd) pd p (1::t)=(361,true,L,du,app du pd,pd):=rfl
  rw [rwrite_off,oB,ha]
  dsimp only
  rw [neI (by decide),cF,oB]
  dsimp only
  rw [neI (by decide),cF,oB]
  dsimp only
  rw [neI (by decide),cF,oB]
  dsimp only
  rw [neI (by decide),notF,cT,if_neg (show ¬ ((361:Int)=0) by decide)]
 | false =>
  rw [rwrite_ok (by omega) (by omega) (by omega) hL,oB]
  dsimp only
  rw [eqI rfl,cT]
  cases hu:(usd L).1 with
  | true =>
   have ha:apd false L du (app du pd) pd p (1::t)=(361,true,(usd L).2,du,spl (app du pd) (p+1) t,pd++[(((p+1:Nat):Int),t)]):=by
    unfold apd
    rw [if_neg (by decide),if_pos hu];rfl
   rw [ha,rsync_off,oB,oB]
   dsimp only
   rw [neI (by decide),cF,oB]
   dsimp only
   rw [neI (by decide),cF,oB]
   dsimp only
   rw [neI (by decide),notF,cT,if_neg (show ¬ ((361:Int)=0) by decide)]
  | false =>
   have hpin:PdIn n (pd++[(((p+1:Nat):Int),t)]):=⟨by rw [lA];simp;omega,fun w hw=>by
    rcases List.mem_append.1 hw with hw | hw
    ·exact hpd.2 w hw
    ·simp only [List.mem_singleton] at hw
     subst hw
     dsimp only
     omega⟩
   have hap:app du (pd++[(((p+1:Nat):Int),t)])=spl (app du pd) (p+1) t:=by rw [app_snoc,Int.toNat_natCast]
   have hv1:(spl (app du pd) (p+1) t).length=n:=by rw [spl_len (by omega),hvl]
   rw [rsync_ok hd1 hn hpin,oB,oB,hap]
   dsimp only
   rw [eqI rfl,cT,h01,oB,rwrite_ok (by rw [hv1];show p+1≤n;omega) (by omega) (by simp) (usd_in hL),oB,oB,List.nil_append]
   dsimp only
   rw [eqI rfl,cT]
   cases hu2:(usd (usd L).2).1 with
   | true =>
    have ha:apd false L du (app du pd) pd p (1::t)=(361,true,(usd (usd L).2).2,spl (app du pd) (p+1) t,spl (spl (app du pd) (p+1) t) p [1],[((p:Int),[1])]):=by
     unfold apd
     rw [if_neg (by decide),hu,if_neg (by decide),if_pos hu2];rfl
    rw [ha,rsync_off,oB,oB]
    dsimp only
    rw [neI (by decide),notF,cT,if_neg (show ¬ ((361:Int)=0) by decide)]
   | false =>
    have ha:apd false L du (app du pd) pd p (1::t)=(0,false,(usd (usd L).2).2,spl (spl (app du pd) (p+1) t) p [1],spl (spl (app du pd) (p+1) t) p [1],[]):=by
     unfold apd
     rw [if_neg (by decide),hu,if_neg (by decide),hu2,if_neg (by decide)];rfl
    have hpin2:PdIn n [((p:Int),([1]:Bs))]:=⟨by simp,fun w hw=>by
     simp only [List.mem_singleton] at hw
     subst hw
     show 0≤(p:Int)∧(p:Int)+((1:Nat):Int)≤n
     omega⟩
    have hap2:app (spl (app du pd) (p+1) t) [((p:Int),([1]:Bs))]=spl (spl (app du pd) (p+1) t) p [1]:=rfl
    rw [ha,rsync_ok hv1 hn hpin2,oB,oB,hap2]
    dsimp only
    rw [eqI rfl,notT,cF,happ2,oB,happ3,oB,List.length_cons,wrap_in (by omega) (by omega),if_pos rfl]
    rfl
variable [EA]
variable {o:Bool} {L:Int} {du vi:Bs} {pd:List (Int×Bs)} {n p:Nat} {br:Bool} {recs l:List Bs}
def JOk (n:Nat) (e:Int) (nil:Bool) (hh:Bs) (p:Nat) (recs:List Bs):Prop:=(e=0∧nil=false∧OkL recs∧hh=hd h0 recs∧p=(enc h0 recs).length∧p≤n)∨(e≠0∧nil=true∧hh=[]∧p=0∧recs=[])
theorem open_both (h0n:0<n) (hd1:du.length=n) (hn:n≤100000) (hp:PdIn n pd) (hp2:pd.length≤100) (hL:0≤L∧L≤1000):∃ e o' L' du' pd' nil hh,∃ q:Nat,∃ recs,
  m25 (false,o,L,nB du,nB (app du pd),pd)=some (e,o',L',nB du',nB (app du' pd'),nil,hh,(q:Int),false,recs,pd') ∧
  m50 (false,o,L,nB du,pd)=some (e,o',L',nil,(q:Int),false,recs,nB du',pd') ∧
  JOk n e nil hh q recs∧du'.length=n∧PdIn n pd'∧0≤L'∧L'≤1000∧(pd'=pd∨pd'=[]∨(o'=true∧pd'.length=pd.length+1))∧(o=true→o'=true∧pd'=pd)∧(e=0→o'=false)∧((∀ w∈pd,w.1<(n:Int))→∀ w∈pd',w.1<(n:Int)):=by
 have hvl:=app_len hp.2 hd1
 cases o with
 | true =>
  refine ⟨361,true,L,du,pd,true,[],0,[],?_,ropen_off,.inr ⟨by decide,rfl,rfl,rfl,rfl⟩,hd1,hp,hL.1,hL.2,.inl rfl,fun _=>⟨rfl,rfl⟩,(fun h=>absurd h (by decide)),fun h=>h⟩
  exact open_off (L:=L) (du:=du) (vi:=app du pd) (pd:=pd)
 | false =>
  obtain ⟨l,z,hr,hm⟩:=open_ok (L:=L) (du:=du) (vi:=app du pd) (pd:=pd) (by omega) (by omega) (by omega) (by omega) hL
  obtain ⟨l',z',hr',hm'⟩:=ropen_ok (L:=L) h0n hd1 hn hp hp2 hL
  obtain ⟨rfl,rfl⟩:=hr.uniq hr'
  have hvz:(app du pd).length=(enc h0 l).length+z.length:=by rw [hr.2.1,lA]
  have hul:=usd_in hL
  rcases hm with ⟨hb,hm⟩ | ⟨hs,hz,hm⟩ | ⟨hs,hz,hu,hm⟩ | ⟨hs,hz,hu,hm⟩
  ·rcases hm' with ⟨_,hm'⟩ | ⟨hs',_⟩ | ⟨hs',_⟩ | ⟨hs',_⟩
   ·exact ⟨372,false,L,du,pd,true,[],0,[],hm,hm',.inr ⟨by decide,rfl,rfl,rfl,rfl⟩,hd1,hp,hL.1,hL.2,.inl rfl,(fun h=>by cases h),(fun h=>absurd h (by decide)),fun h=>h⟩
   ·exact (hs'.bad hb).elim
   ·exact (hs'.bad hb).elim
   ·exact (hs'.bad hb).elim
  ·rcases hm' with ⟨hb',_⟩ | ⟨_,_,hm'⟩ | ⟨_,hz',_⟩ | ⟨_,hz',_⟩
   ·exact (hs.bad hb').elim
   ·exact ⟨0,false,L,du,pd,false,_,_,l,hm,hm',.inl ⟨rfl,rfl,hr.1,rfl,rfl,by omega⟩,hd1,hp,hL.1,hL.2,.inl rfl,(fun h=>by cases h),(fun _=>rfl),fun h=>h⟩
   ·exact absurd hz hz'
   ·exact absurd hz hz'
  ·rcases hm' with ⟨hb',_⟩ | ⟨_,hz',_⟩ | ⟨_,_,_,hm'⟩ | ⟨_,_,hu',_⟩
   ·exact (hs.bad hb').elim
   ·exact absurd hz' hz
   ·have hap:app du (pd++[(((enc h0 l).length:Int),(List.replicate z.length 0:Bs))])=enc h0 l++List.replicate z.length 0:=by
     rw [app_snoc,hr.2.1,Int.toNat_natCast];exact spl_end (by simp)
    refine ⟨361,true,(usd L).2,du,_,true,[],0,[],by rw [hap];exact hm,hm',.inr ⟨by decide,rfl,rfl,rfl,rfl⟩,hd1,⟨by rw [lA];simp;omega,fun w hw=>?_⟩,hul.1,hul.2,.inr (.inr ⟨rfl,by simp⟩),(fun h=>by cases h),(fun h=>absurd h (by decide)),fun h w hw=>?_⟩
    rotate_left
    ·rcases List.mem_append.1 hw with hw | hw
     ·exact h w hw
     ·simp only [List.mem_singleton] at hw
      subst hw
      have:0<z.length:=by
       cases z with
       | nil=>exact absurd rfl hz
       | cons _ _=>simp
      dsimp only
      omega
    rcases List.mem_append.1 hw with hw | hw
    ·exact hp.2 w hw
    ·simp only [List.mem_singleton] at hw
     subst hw
     simp only [List.length_replicate]
     omega
   ·rw [hu] at hu';cases hu'
  ·rcases hm' with ⟨hb',_⟩ | ⟨_,hz',_⟩ | ⟨_,_,hu',_⟩ | ⟨_,_,_,hm'⟩
   ·exact (hs.bad hb').elim
   ·exact absurd hz' hz
   ·rw [hu] at hu';cases hu'
   ·exact ⟨0,false,(usd L).2,_,[],false,_,_,l,hm,hm',.inl ⟨rfl,rfl,hr.1,rfl,rfl,by omega⟩,by rw [lA,List.length_replicate];omega,⟨by simp,fun w hw=>by simp at hw⟩,hul.1,hul.2,.inr (.inl rfl),(fun h=>by cases h),(fun _=>rfl),fun _ w hw=>by simp at hw⟩
theorem app_both (hl:OkL l) (hll:l.length≤1000) (hro:OkL recs) (hpe:p=(enc h0 recs).length) (hp:p≤n) (hd1:du.length=n) (hn:n≤100000) (hpd:PdIn n pd) (hp2:pd.length≤100) (hL:0≤L∧L≤1000) (hoff:o=false→pd=[]) (h1:pd.length≤1):∃ e o' L' du' pd',∃ q:Nat,∃ recs' br',
  m10 (l,false,hd h0 recs,(p:Int),br,recs,false,o,L,nB du,nB (app du pd),pd)=some (e,false,hd h0 recs',(q:Int),br',o',L',nB du',nB (app du' pd'),recs',pd') ∧
  m12 (l,false,(p:Int),br,false,o,L,nB du,pd,recs)=some (e,(q:Int),br',o',L',recs',nB du',pd') ∧
  OkL recs'∧q=(enc h0 recs').length∧q≤n∧du'.length=n∧PdIn n pd'∧0≤L'∧L'≤1000∧(o'=false→pd'=[])∧pd'.length≤1∧((∀ w∈pd,w.1<(n:Int))→∀ w∈pd',w.1<(n:Int)):=by
 have hvl:=app_len hpd.2 hd1
 have hle:=enc_le (h:=h0) recs
 have hhl:=hd_len h0_len recs
 cases br with
 | true=>exact ⟨370,o,L,du,pd,p,recs,true,broken_u,rapp_broken,hro,hpe,hp,hd1,hpd,hL.1,hL.2,hoff,h1,fun h=>h⟩
 | false =>
  have e1:=app_ok (o:=o) (L:=L) (du:=du) (vi:=app du pd) (pd:=pd) (hh:=hd h0 recs) (p:=p) (recs:=recs) (l:=l) hhl hl hll (by omega) (by omega) (by omega) (by omega) hp2 hL
  have e2:=rapp_ok (o:=o) (L:=L) (du:=du) (pd:=pd) (p:=p) (recs:=recs) (l:=l) hl hll hro (by omega) (by omega) hd1 hn hpd hp2 hL
  by_cases hfit:du.length<p+(enc (hd h0 recs) l).length
  ·rw [if_pos hfit] at e1 e2
   exact ⟨371,o,L,du,pd,p,recs,false,e1,e2,hro,hpe,hp,hd1,hpd,hL.1,hL.2,hoff,h1,fun h=>h⟩
  rw [if_neg hfit] at e1 e2
  by_cases hnil:l=[]
  ·rw [if_pos hnil] at e1 e2
   exact ⟨0,o,L,du,pd,p,recs,false,e1,e2,hro,hpe,hp,hd1,hpd,hL.1,hL.2,hoff,h1,fun h=>h⟩
  rw [if_neg hnil] at e1 e2
  obtain ⟨t,ht⟩:=enc_head (h:=hd h0 recs) hnil
  have hea:(enc h0 (recs++l)).length=p+(enc (hd h0 recs) l).length:=by rw [enc_app,lA,hpe]
  have h33:33≤(enc (hd h0 recs) l).length:=by
   cases l with
   | nil=>exact absurd rfl hnil
   | cons r l =>
    show 33≤(sto (hd h0 recs) r++_).length
    rw [lA,sto_len];omega
  rw [ht,List.length_cons] at h33
  rw [ht] at e1 e2 hfit hea
  have htl:(1::t:Bs).tail=t:=rfl
  rw [List.length_cons] at hfit hea
  cases o with
  | true =>
   have ha:apd true L du (app du pd) pd p (1::t)=(361,true,L,du,app du pd,pd):=rfl
   rw [ha,if_neg (show ¬ ((361:Int)=0) by decide)] at e1 e2
   exact ⟨361,true,L,du,pd,p,recs,true,e1,e2,hro,hpe,hp,hd1,hpd,hL.1,hL.2,(fun h=>by cases h),h1,fun h=>h⟩
  | false =>
   have hpd0:=hoff rfl
   subst hpd0
   have h21:=usd_in hL
   have h22:=usd_in h21
   have hdl:(app du [])=du:=rfl
   rw [hdl] at e1 e2
   have hv1:(spl du (p+1) t).length=n:=by rw [spl_len (by omega),hd1]
   cases hu:(usd L).1 with
   | true =>
    have ha:apd false L du du [] p (1::t)=(361,true,(usd L).2,du,spl du (p+1) t,[(((p+1:Nat):Int),t)]):=by
     unfold apd
     rw [if_neg (by decide),if_pos hu];rfl
    rw [ha,if_neg (show ¬ ((361:Int)=0) by decide)] at e1 e2
    exact ⟨361,true,(usd L).2,du,[(((p+1:Nat):Int),t)],p,recs,true,e1,e2,hro,hpe,hp,hd1,⟨by simp,fun w hw=>by
     simp only [List.mem_singleton] at hw
     subst hw
     dsimp only
     omega⟩,h21.1,h21.2,(fun h=>by cases h),by simp,fun _ w hw=>by
     simp only [List.mem_singleton] at hw
     subst hw
     dsimp only
     omega⟩
   | false =>
    cases hu2:(usd (usd L).2).1 with
    | true =>
     have ha:apd false L du du [] p (1::t)=(361,true,(usd (usd L).2).2,spl du (p+1) t,spl (spl du (p+1) t) p [1],[((p:Int),[1])]):=by
      unfold apd
      rw [if_neg (by decide),hu,if_neg (by decide),if_pos hu2];rfl
     rw [ha,if_neg (show ¬ ((361:Int)=0) by decide)] at e1 e2
     exact ⟨361,true,(usd (usd L).2).2,spl du (p+1) t,[((p:Int),[1])],p,recs,true,e1,e2,hro,hpe,hp,hv1,⟨by simp,fun w hw=>by
      simp only [List.mem_singleton] at hw
      subst hw
      show 0≤(p:Int)∧(p:Int)+((1:Nat):Int)≤n
      omega⟩,h22.1,h22.2,(fun h=>by cases h),by simp,fun _ w hw=>by
      simp only [List.mem_singleton] at hw
      subst hw
      dsimp only
      omega⟩
    | false =>
     have ha:apd false L du du [] p (1::t)=(0,false,(usd (usd L).2).2,spl (spl du (p+1) t) p [1],spl (spl du (p+1) t) p [1],[]):=by
      unfold apd
      rw [if_neg (by decide),hu,if_neg (by decide),hu2,if_neg (by decide)];rfl
     rw [ha,if_pos (show ((0:Int)=0) by rfl),← hd_app] at e1
     rw [ha,if_pos (show ((0:Int)=0) by rfl)] at e2
     exact ⟨0,false,(usd (usd L).2).2,spl (spl du (p+1) t) p [1],[],p+(t.length+1),recs++l,false,e1,e2,hro.app hl,by omega,by omega,by rw [spl_len (by rw [hv1];show p+1≤n;omega),hv1],⟨by simp,fun w hw=>by simp at hw⟩,h22.1,h22.2,(fun _=>rfl),by simp,fun _ w hw=>by simp at hw⟩
variable [EA]
variable {o:Bool} {L:Int} {du vi:Bs} {pd:List (Int×Bs)} {n p:Nat} {br:Bool} {recs l:List Bs}
theorem ropen_u (hl:OkL l) (hf:(enc h0 l).length≤n) (h0n:0<n) (hn:n≤100000) (hL:0≤L∧L≤1000):m50 (false,false,L,nB (ct n l),[])=some (0,false,L,false,((enc h0 l).length:Int),false,l,nB (ct n l),[]):=by
 obtain ⟨l',z',hr,hm⟩:=ropen_ok (L:=L) (du:=ct n l) (pd:=[]) h0n (ct_len hf) hn ⟨by simp,fun w hw=>by simp at hw⟩ (by simp) hL
 have hst:=stop_zeros (n-(enc h0 l).length)
 obtain ⟨rfl,rfl⟩:=Rd.uniq (⟨hl,rfl,.inl hst⟩:Rd h0 (ct n l) l _) hr
 have hzs:Zs (List.replicate (n-(enc h0 l).length) (0:UInt8)):=by unfold Zs;rw [List.length_replicate]
 rcases hm with ⟨hb,_⟩ | ⟨_,_,hm⟩ | ⟨_,hz,_⟩ | ⟨_,hz,_⟩
 ·exact (hst.bad hb).elim
 ·exact hm
 ·exact absurd hzs hz
 ·exact absurd hzs hz
theorem read_u (h0n:0<n) (hd1:du.length=n) (hv:vi.length=n) (hn:n≤100000):m52 (0,(n:Int),false,false,L,nB du,nB vi,pd)=some (vi,0):=by
 have:=read_ok (L:=L) (du:=du) (vi:=vi) (pd:=pd) (by omega) (by omega) (by omega)
 rw [hd1] at this
 exact this
theorem size_u (hd1:du.length=n):m51 (false,o,L,nB du,nB vi,pd)=some (n:Int):=by
 have:=size_ok (o:=o) (L:=L) (du:=du) (vi:=vi) (pd:=pd)
 rw [hd1] at this
 exact this
variable [EA]
theorem crash_u {o:Bool} {L:Int} {du vi:Bs} {pd:List (Int×Bs)} {keep:List Int} {t:Int} (hk:keep.length≤1000) (ht:-9223372036854775808≤t∧t≤9223372036854775807) (h:PdOk du.length pd) (hv:vi.length=du.length) (hn:du.length≤100000) :
  m30 (keep,t,false,o,L,nB du,nB vi,pd)=some (0,false,0,nB (cr keep t du pd),nB (cr keep t du pd),[]):=crash_ok hk ht h hv hn
theorem keep_ok {keep:List Int} (h:keep.length≤9223372036854775807):sliceM keep 0 (min (lenM keep) 20)=some (keep.take 20)∧(keep.take 20).length≤1000:=by
 refine ⟨?_,by rw [lT];omega⟩
 rw [lenI,sliceM_of (by omega) (by omega) (by omega),show (0:Int).toNat=0 from rfl,List.drop_zero]
 by_cases h:keep.length≤20
 ·rw [tkL (by omega),tkL h]
 ·congr 2;omega
variable [EA]
abbrev S6:Type:=Bool×Int×List Int×List Int×Bool×Bs×Int×Bool×List Bs×List Bs×List (Int×Bs)
def A6 (n:Nat) (s:S6):Prop:=∃ r L sure,OkL r∧(enc h0 r).length≤n∧0≤L∧L≤1000∧sure <+: r∧s=(false,L,nB (ct n r),nB (ct n r),false,hd h0 r,((enc h0 r).length:Int),false,sure,r,[])
end Go.Proofs.YtobfnefajpiakaaGreatDoor
