/-
 Texts of this proof, put together: M1, M2, M3, M4, M5, M6, PA.
 No conditions.
-/
import Derived.Test.YtdaaoecjdhipjaaGreatDoorZ4
set_option linter.all false
namespace Go.Proofs.YtdaaoecjdhipjaaGreatDoor
open Go Go.Abs Go.PE Go.Proofs
open Go.IntKind (wrap)
set_option maxRecDepth 100000
noncomputable section

/-! (putlog/integer.number).over -/
def as114:List Ty:=[tL,tL]
def rs114:List Ty:=[tL,tL]
def an114:Ann:=.seq (.a) (.seq (.a) (.seq (.seq (.reg [] [] [z0,.r] (.call [] [] (.seq (.a) (.a)) (.a))) (.block (.call [] [] (.seq (.a) (.block (.loop ⟨[(3,.r (.c (.d (.d tI))))],(ra 7 12 ([])),[(2,.box [.d (.d tL)]),(3,.arr tI),(5,.lp .ready)],[]⟩ [(.exit 0,⟨[],(3::ra 7 12 ([])),[(2,.box [.d (.d tL)]),(3,.arr tI),(5,.lp .ready)],[]⟩)] (.seq (.a) (.seq (.block (.seq (.reg [] [] [z0,z0,.s [4] [],z0,z0,z0,.r,z0] (.call [] [] (.seq (.a) (.block (.seq (.a) (.seq (.a) (.seq (.a) (.seq (.reg [0,0,0,4,15,31] (ra 0 6 ([])) [.s [1] [],z0,z0,.k [],.s [3] [],.s [3] [3]] (.kp [] ⟨[(28,.r (.c (.d (.d tI))))],[],[],[]⟩ (.seq (.a) (.seq (.a) (.seq (.block (.loop ⟨[(5,.r (.c (.d (.d tI)))),(6,.r (.c (.d (.d tI))))],(7::ra 9 16 ([])),[],[]⟩ [(.exit 0,⟨[(5,.r (.c (.d (.d tI))))],(6::7::ra 9 16 ([])),[],[]⟩)] (.seq (.a) (.block (.seq (.a) (.seq (.reg [] [] [z0,z0,.r,z0] (.call [] [] (.seq (.a) (.seq (.reg [0,0,2,7,0,31,63,127] (ra 0 8 ([])) (.s [6] []::za 3 (.s [2] []::za 3 ([]))) (.a)) (.a))) (.a))) (.a))))))) (.a)))) (.a))) (.reg [0,0,0,0,12,28,62,127,255] (ra 0 9 ([])) [.s [2] [],.s [6] [],.s [1] [],z0,.s [3] [],.s [3] [],z0,z0,.s [2] [2]] (.a)))))))) (.a))) (.a))) (.a)))))) (.a)))) (.seq (.reg [0,1,0,3,15] [0,1,2,3,4] [.s [1] [],.s [3] [3],.s [2] [],.s [1] [1],.s [2] [2]] (.a)) (.a))))
def m114:(List Int×List Int)→Option (List Int×List Int) :=
 fun x=>(mkM (lenM x.1) (lenM x.1) (nat_lit 8) 0).bind fun r=>(loopM (fun (s:Int×List Int×List Int)=>bif leM 0 s.1 then (idxM x.1 s.1).bind fun r_1
 => (appM (nat_lit 8) [r_1] s.2.1).bind fun r_2=>(m153 r_2).bind fun r_3=>((loopM (fun (s_1:Int×Int)=>bif ltM s_1.1 s_1.2 then (shrM IntKind.u64
 (wrap IntKind.u64 (wrap IntKind.i64 (s_1.1+s_1.2))) 1).bind fun r_4=>(m154 (x.2,wrap IntKind.i64 (wrap IntKind.i64 r_4+1))).bind fun r_5=>(m119 (r_5,
 r_3)).bind fun r=>bif PE.notM (ltM 0 r) then some (Sum.inl (wrap IntKind.i64 (wrap IntKind.i64 r_4+1),s_1.2)) else some (Sum.inl (s_1.1,wrap IntKind.i64
 r_4)) else some (Sum.inr s_1.1)) (0,9999)).bind fun o=>some o).bind fun (ov:Int)=>(chkM s.1 (lenM s.2.2)).bind fun r_4=>(setM s.2.2 s.1 fun (x:Int)
 => some ov).bind fun r_5=>(chkM s.1 (lenM r_5)).bind fun r_6=>(idxM r_5 s.1).bind fun r_7=>(m154 (x.2,r_7)).bind fun r_8=>(m117 (r_3,r_8)).bind fun
 r=>some (Sum.inl (wrap IntKind.i64 (s.1-1),r,r_5)) else some (Sum.inr (s.2.1,s.2.2))) (wrap IntKind.i64 (lenM x.1-1),[],r)).bind fun o=>(m153
 o.2).bind fun r=>some (r,o.1)
theorem c114:SpecOK Tryz.prog 114 ⟨as114,rs114,m114⟩ :=
 fc tabs154OK [] an114 Tryz.f114 fun x=>by kernel_rfl
def tabs114:Tabs:=Tabs.add tabs154 114 ⟨as114,rs114,m114⟩
theorem tabs114OK:TabOK Tryz.prog tabs114:=TabOK.add tabs154OK c114 Tryz.call114

/-! putlog/integer.Gcd -/
def as112:List Ty:=[.str,.str]
def rs112:List Ty:=[.str,tI]
def an112:Ann:=.seq (.a) (.seq (.a) (.seq (.a) (.seq (.reg [0,1,0,4,3,31] (ra 0 6 ([])) [z0,.s [0] [],z0,.s [1] [],z0,z0] (.a)) (.seq (.block (.loop ⟨[(9,.r (.c (.d (.d tL)))),(10,.r (.c (.d (.d tL))))],(11::12::ra 26 11 ([])),[],[]⟩ [(.exit 0,⟨[(9,.r (.c (.d (.d tL))))],(10::11::12::ra 26 11 ([])),[],[]⟩)] (.a))) (.a)))))
def m112:(List UInt8×List UInt8)→Option (List UInt8×Int) :=
 fun x=>(m113 (x.1,x.2)).bind fun r=>bif PE.notM r.2.2 then some ([],30) else (loopM (fun (s:List Int×List Int)=>bif ltM 0 (lenM s.2) then (m114
 (s.1,s.2)).bind fun r=>some (Sum.inl (s.2,r.2)) else some (Sum.inr s.1)) (r.1.2,r.2.1.2)).bind fun o=>(m118 (false,o)).bind fun r=>some (r.1,r.2)
theorem c112:SpecOK Tryz.prog 112 ⟨as112,rs112,m112⟩ :=
 fc tabs114OK [] an112 Tryz.f112 fun x=>by kernel_rfl
def tabs112:Tabs:=Tabs.add tabs114 112 ⟨as112,rs112,m112⟩
theorem tabs112OK:TabOK Tryz.prog tabs112:=TabOK.add tabs114OK c112 Tryz.call112

/-! putlog/integer.one -/
def as116:List Ty:=[]
def rs116:List Ty:=[tL]
def an116:Ann:=.a
def m116:Unit→Option (List Int) :=
 fun x=>some [1]
theorem c116:SpecOK Tryz.prog 116 ⟨as116,rs116,m116⟩ :=
 fc tabs112OK [] an116 Tryz.f116 fun x=>by kernel_rfl
def tabs116:Tabs:=Tabs.add tabs112 116 ⟨as116,rs116,m116⟩
theorem tabs116OK:TabOK Tryz.prog tabs116:=TabOK.add tabs112OK c116 Tryz.call116

/-! putlog/integer.Div -/
def as76:List Ty:=[.str,.str]
def rs76:List Ty:=[.str,.str,tI]
def an76:Ann:=.seq (.a) (.seq (.a) (.seq (.a) (.seq (.a) (.seq (.join [(.norm,⟨[(10,.r (.c (.d (.d tL)))),(11,.r (.c (.d (.d tL))))],(ra 39 14 ([])),[],[]⟩)] (.seq (.a) (.cond (.reg [0,0,3,0,8,0,63,127,255] (ra 0 9 ([])) (za 4 (.s [1] []::za 4 ([]))) (.a)) (.a)))) (.a)))))
def m76:(List UInt8×List UInt8)→Option (List UInt8×List UInt8×Int) :=
 fun x=>(m113 (x.1,x.2)).bind fun r=>bif PE.orM (PE.notM r.2.2) (eqM (lenM r.2.1.2) 0) then some ([],[],30) else (m114 (r.1.2,r.2.1.2)).bind fun r_1 =>
 (bif PE.andM r.1.1 (ltM 0 (lenM r_1.2)) then (m116 ()).bind fun r_2=>(m115 (r_1.1,r_2)).bind fun r_3=>(m117 (r.2.1.2,r_1.2)).bind fun r=>some (r_3,r)
 else some (r_1.1,r_1.2)).bind fun o=>(m118 (PE.notM (eqbM r.1.1 r.2.1.1),o.1)).bind fun r_2=>bif PE.notM (eqM r_2.2 0) then some ([],[],r_2.2) else
 (m118 (false,o.2)).bind fun r=>some (r_2.1,r.1,0)
theorem c76:SpecOK Tryz.prog 76 ⟨as76,rs76,m76⟩ :=
 fc tabs116OK [] an76 Tryz.f76 fun x=>by kernel_rfl
def tabs76:Tabs:=Tabs.add tabs116 76 ⟨as76,rs76,m76⟩
theorem tabs76OK:TabOK Tryz.prog tabs76:=TabOK.add tabs116OK c76 Tryz.call76

/-! (*putlog/rational.work).quotient$1 -/
def as182:List Ty:=[.str,.str]
def rs182:List Ty:=[.str,tI]
def an182:Ann:=.a
def m182:(List UInt8×List UInt8)→Option (List UInt8×Int) :=
 fun x=>(m76 (x.1,x.2)).bind fun r=>some (r.1,r.2.2)
theorem c182:SpecOK Tryz.prog 182 ⟨as182,rs182,m182⟩ :=
 fc tabs76OK [] an182 Tryz.f182 fun x=>by kernel_rfl
def tabs182:Tabs:=Tabs.add tabs76 182 ⟨as182,rs182,m182⟩
theorem tabs182OK:TabOK Tryz.prog tabs182:=TabOK.add tabs76OK c182 Tryz.call182

/-! putlog/rational.Make -/
def as78:List Ty:=[.str,.str]
def rs78:List Ty:=[(.pair .str .str),tI]
def an78:Ann:=.seq (.a) (.seq (.a) (.seq (.reg [] [] [z0,z0,z0,.r,z0,z0,.s [0] [0],z0] (.call [] [(.norm,⟨[(20,.t [.s [.d (.d .str),.d (.d .str)],.c (.d (.d tI))])],[],[(1,.box [.d (.d .bool)])],[]⟩)] (.seq (.a) (.seq (.a) (.seq (.join [(.norm,⟨[(1,.r (.c (.d (.d .str)))),(2,.r (.c (.d (.d .str))))],(ra 19 9 ([])),[(1,.box [.d (.d .bool)])],[]⟩)] (.seq (.a) (.cond (.reg [] [] [z0,z0,.r,z0,z0,.r,z0,z0] (.call [] [(.norm,⟨[(24,.r (.c (.d (.d .str))))],[],[(1,.box [.d (.d .bool)])],[]⟩)] (.seq (.a) (.a)) (.call [] [(.norm,⟨[(27,.r (.c (.d (.d .str))))],[],[(1,.box [.d (.d .bool)])],[]⟩)] (.seq (.a) (.a)) (.a)))) (.a)))) (.seq (.reg [] [] [z0,z0,z0,.r,z0] (.call [] [(.norm,⟨[(31,.r (.c (.d (.d .str))))],[],[(1,.box [.d (.d .bool)])],[]⟩)] (.seq (.a) (.a)) (.a))) (.seq (.reg [] [] [z0,z0,z0,.r,z0,z0,z0,.r,z0,.s [] [3],.s [3] [3]] (.call [] [] (.seq (.a) (.seq (.reg [] [] [z0,z0,z0,.r,z0] (.call [] [(.norm,⟨[(10,.r (.c (.d (.d .str))))],[],[(1,.box [.d (.d .bool)])],[]⟩)] (.seq (.a) (.a)) (.a))) (.a))) (.call [] [] (.seq (.a) (.seq (.reg [] [] [z0,z0,z0,.r,z0] (.call [] [(.norm,⟨[(10,.r (.c (.d (.d .str))))],[],[(1,.box [.d (.d .bool)])],[]⟩)] (.seq (.a) (.a)) (.a))) (.a))) (.a)))) (.a)))))) (.a))) (.a)))
def m78:(List UInt8×List UInt8)→Option ((List UInt8×List UInt8)×Int) :=
 fun x=>(m111 x.1).bind fun r=>(bif PE.notM (PE.notM r) then m111 x.2 else some false).bind fun r_1=>(bif PE.orM (PE.orM (PE.notM r) (PE.notM r_1)) (eqsM
 x.2 [(48:UInt8)]) then some ([],[],40,PE.orM (PE.notM r) (PE.notM r_1)) else ((m77 (x.2,[(48:UInt8)])).bind fun r_2=>bif ltM r_2 0 then (bif PE.orM
 (PE.notM r) (PE.notM r_1) then some ([],PE.orM (PE.notM r) (PE.notM r_1)) else (m148 ([(48:UInt8)],x.1)).bind fun r=>some (r.1,PE.notM (eqM r.2
 0))).bind fun (ov:List UInt8×Bool)=>(bif ov.2 then some ([],ov.2) else (m148 ([(48:UInt8)],x.2)).bind fun r=>some (r.1,PE.notM (eqM r.2 0))).bind
 fun (ov_1:List UInt8×Bool)=>some (ov.1,ov_1.1,ov_1.2) else some (x.1,x.2,PE.orM (PE.notM r) (PE.notM r_1))).bind fun o=>(bif o.2.2 then some ([],
 o.2.2) else (m112 (o.1,o.2.1)).bind fun r=>some (r.1,PE.notM (eqM r.2 0))).bind fun (ov:List UInt8×Bool)=>(bif ov.2 then some ([],ov.2) else (m182
 (o.1,ov.1)).bind fun r=>some (r.1,PE.notM (eqM r.2 0))).bind fun (ov_1:List UInt8×Bool)=>(bif ov_1.2 then some ([],ov_1.2) else (m182 (o.2.1,
 ov.1)).bind fun r=>some (r.1,PE.notM (eqM r.2 0))).bind fun (ov:List UInt8×Bool)=>bif ov.2 then some ([],[],40,ov.2) else some (ov_1.1,ov.1,0,
 ov.2)).bind fun (ov:List UInt8×List UInt8×Int×Bool)=>some ((ov.1,ov.2.1),ov.2.2.1)
theorem c78:SpecOK Tryz.prog 78 ⟨as78,rs78,m78⟩ :=
 fc tabs182OK [] an78 Tryz.f78 fun x=>by kernel_rfl
def tabs78:Tabs:=Tabs.add tabs182 78 ⟨as78,rs78,m78⟩
theorem tabs78OK:TabOK Tryz.prog tabs78:=TabOK.add tabs182OK c78 Tryz.call78

/-! putlog/rational.Of -/
def as42:List Ty:=[tI,tI]
def rs42:List Ty:=[(.pair .str .str),tI]
def an42:Ann:=.a
def m42:(Int×Int)→Option ((List UInt8×List UInt8)×Int) :=
 fun x=>(m79 x.1).bind fun r=>(m79 x.2).bind fun r_1=>(m78 (r,r_1)).bind fun r=>some ((r.1.1,r.1.2),r.2)
theorem c42:SpecOK Tryz.prog 42 ⟨as42,rs42,m42⟩ :=
 fc tabs78OK [] an42 Tryz.f42 fun x=>by kernel_rfl
def tabs42:Tabs:=Tabs.add tabs78 42 ⟨as42,rs42,m42⟩
theorem tabs42OK:TabOK Tryz.prog tabs42:=TabOK.add tabs78OK c42 Tryz.call42

/-! putlog/field.left -/
def as66:List Ty:=[tP,tP,tB]
def rs66:List Ty:=[tI]
def an66:Ann:=.a
def m66:((Int×Int)×(Int×Int)×Int×Int×Int)→Option (Int) :=
 fun x=>some (wrap IntKind.i64 (wrap IntKind.i64 (wrap IntKind.i64 (x.2.1.1-x.1.1)*wrap IntKind.i64 (x.2.2.2.1-wrap IntKind.i64 (x.1.2*x.2.2.2.2))) -
 wrap IntKind.i64 (wrap IntKind.i64 (x.2.1.2-x.1.2)*wrap IntKind.i64 (x.2.2.1-wrap IntKind.i64 (x.1.1*x.2.2.2.2)))))
theorem c66:SpecOK Tryz.prog 66 ⟨as66,rs66,m66⟩ :=
 fc tabs42OK [] an66 Tryz.f66 fun x=>by kernel_rfl
def tabs66:Tabs:=Tabs.add tabs42 66 ⟨as66,rs66,m66⟩
theorem tabs66OK:TabOK Tryz.prog tabs66:=TabOK.add tabs42OK c66 Tryz.call66

/-! putlog/field.gcd -/
def as125:List Ty:=[tI,tI]
def rs125:List Ty:=[tI]
def an125:Ann:=.seq (.a) (.seq (.block (.loop ⟨[(0,.r (.c (.d (.d tI)))),(1,.r (.c (.d (.d tI))))],(ra 5 6 ([])),[],[]⟩ [(.exit 0,⟨[(0,.r (.c (.d (.d tI))))],(1::ra 5 6 ([])),[],[]⟩)] (.seq (.a) (.block (.reg [0,0,0,6,3,31] (ra 0 6 ([])) (za 6 ([])) (.a)))))) (.a))
def m125:(Int×Int)→Option (Int) :=
 fun x=>(loopM (fun (s:Int×Int)=>bif PE.notM (eqM s.2 0) then (remM s.1 s.2).bind fun r=>some (Sum.inl (s.2,r)) else some (Sum.inr s.1)) (x.1,
 x.2)).bind fun o=>some (max o (wrap IntKind.i64 (negM o)))
theorem c125:SpecOK Tryz.prog 125 ⟨as125,rs125,m125⟩ :=
 fc tabs66OK [] an125 Tryz.f125 fun x=>by kernel_rfl
def tabs125:Tabs:=Tabs.add tabs66 125 ⟨as125,rs125,m125⟩
theorem tabs125OK:TabOK Tryz.prog tabs125:=TabOK.add tabs66OK c125 Tryz.call125

/-! putlog/field.reduced -/
def as94:List Ty:=[tB]
def rs94:List Ty:=[tB]
def an94:Ann:=.seq (.a) (.seq (.reg [0,1,0,4,15,0,32,127,255] (ra 0 9 ([])) [z0,.s [0] [],z0,.s [0] [],z0,z0,.s [0] [],z0,z0] (.a)) (.seq (.join [(.norm,⟨[(3,.r (.c (.d (.d tI))))],[12,13,14,15,16],[],[]⟩)] (.a)) (.seq (.reg [0,1,0,7,0,16,0,112,0,256,0,1792,4095,8191] (ra 0 14 ([])) (z0::.s [0] []::za 3 (.s [0] []::za 3 (.s [0] []::za 3 (.s [1] [1]::[])))) (.a)) (.a))))
def m94:(Int×Int×Int)→Option (Int×Int×Int) :=
 fun x=>(m125 (x.1,x.2.1)).bind fun r=>(m125 (r,x.2.2)).bind fun r_1=>(bif ltM x.2.2 0 then some (wrap IntKind.i64 (negM r_1)) else some r_1).bind fun o
 => (divM IntKind.i64 x.1 o).bind fun r_2=>(divM IntKind.i64 x.2.1 o).bind fun r_3=>(divM IntKind.i64 x.2.2 o).bind fun r=>some (r_2,r_3,r)
theorem c94:SpecOK Tryz.prog 94 ⟨as94,rs94,m94⟩ :=
 fc tabs125OK [] an94 Tryz.f94 fun x=>by kernel_rfl
def tabs94:Tabs:=Tabs.add tabs125 94 ⟨as94,rs94,m94⟩
theorem tabs94OK:TabOK Tryz.prog tabs94:=TabOK.add tabs125OK c94 Tryz.call94

/-! putlog/rational.Valid -/
def as75:List Ty:=[(.pair .str .str)]
def rs75:List Ty:=[.bool]
def an75:Ann:=.a
def m75:(List UInt8×List UInt8)→Option (Bool) :=
 fun x=>(m111 x.1).bind fun r=>(bif PE.notM (PE.notM r) then m111 x.2 else some false).bind fun r_1=>(bif PE.notM (PE.orM (PE.notM r) (PE.notM r_1)) then
 m77 (x.2,[(48:UInt8)]) else some 0).bind fun r_2=>bif PE.orM (PE.orM (PE.notM r) (PE.notM r_1)) (leM r_2 0) then some false else (m112 (x.1,x.2)).bind
 fun r=>some (PE.andM (eqM r.2 0) (eqsM r.1 [(49:UInt8)]))
theorem c75:SpecOK Tryz.prog 75 ⟨as75,rs75,m75⟩ :=
 fc tabs94OK [] an75 Tryz.f75 fun x=>by kernel_rfl
def tabs75:Tabs:=Tabs.add tabs94 75 ⟨as75,rs75,m75⟩
theorem tabs75OK:TabOK Tryz.prog tabs75:=TabOK.add tabs94OK c75 Tryz.call75

/-! (putlog/integer.number).times -/
def as181:List Ty:=[tL,tL]
def rs181:List Ty:=[tL]
def an181:Ann:=.seq (.a) (.seq (.a) (.seq (.seq (.reg [] [] [z0,.r] (.call [] [] (.seq (.a) (.a)) (.a))) (.block (.call [] [] (.seq (.a) (.block (.loop ⟨[(3,.r (.c (.d (.d tI))))],(ra 7 12 ([])),[(1,.box [.d (.d tL)]),(3,.lp .ready)],[]⟩ [(.exit 0,⟨[],(3::ra 7 12 ([])),[(1,.box [.d (.d tL)]),(3,.lp .ready)],[]⟩)] (.seq (.a) (.seq (.block (.seq (.reg [] [] [z0,z0,.s [2] [],z0,z0,z0,.r,z0] (.call [] [] (.seq (.a) (.block (.seq (.join [(.norm,⟨[],(ra 12 6 ([])),[(1,.box [.d (.d tL)])],[]⟩)] (.a)) (.reg [0,0,0,6,15,31] (ra 0 6 ([])) (.s [1] []::.s [0] []::za 3 (.s [1] [1]::[])) (.a))))) (.a))) (.a))) (.a)))))) (.a)))) (.a)))
def m181:(List Int×List Int)→Option (List Int) :=
 fun x=>(loopM (fun (s:Int×List Int)=>bif leM 0 s.1 then (idxM x.2 s.1).bind fun r=>(bif ltM 0 (lenM s.2) then (appM (nat_lit 8) [0] s.2).bind fun r =>
 some r else some s.2).bind fun o=>(m154 (x.1,r)).bind fun r_1=>(m115 (o,r_1)).bind fun r=>some (Sum.inl (wrap IntKind.i64 (s.1-1),r)) else some
 (Sum.inr s.2)) (wrap IntKind.i64 (lenM x.2-1),[])).bind fun o=>some o
theorem c181:SpecOK Tryz.prog 181 ⟨as181,rs181,m181⟩ :=
 fc tabs75OK [] an181 Tryz.f181 fun x=>by kernel_rfl
def tabs181:Tabs:=Tabs.add tabs75 181 ⟨as181,rs181,m181⟩
theorem tabs181OK:TabOK Tryz.prog tabs181:=TabOK.add tabs75OK c181 Tryz.call181

/-! putlog/integer.Mul -/
def as147:List Ty:=[.str,.str]
def rs147:List Ty:=[.str,tI]
def an147:Ann:=.seq (.a) (.seq (.a) (.seq (.a) (.seq (.reg [0,1,0,4,15,0,32,0,128,480,1023,2047,4095,4095,16383,32767] (ra 0 16 ([])) (z0::.s [0] []::z0::.s [1] []::z0::z0::.s [0] []::z0::.s [1] []::za 7 ([])) (.a)) (.a))))
def m147:(List UInt8×List UInt8)→Option (List UInt8×Int) :=
 fun x=>(m113 (x.1,x.2)).bind fun r=>bif PE.notM r.2.2 then some ([],30) else (m181 (r.1.2,r.2.1.2)).bind fun r_1=>(m118 (PE.notM (eqbM r.1.1 r.2.1.1),
 r_1)).bind fun r=>some (r.1,r.2)
theorem c147:SpecOK Tryz.prog 147 ⟨as147,rs147,m147⟩ :=
 fc tabs181OK [] an147 Tryz.f147 fun x=>by kernel_rfl
def tabs147:Tabs:=Tabs.add tabs181 147 ⟨as147,rs147,m147⟩
theorem tabs147OK:TabOK Tryz.prog tabs147:=TabOK.add tabs181OK c147 Tryz.call147

/-! putlog/integer.Add -/
def as96:List Ty:=[.str,.str]
def rs96:List Ty:=[.str,tI]
def an96:Ann:=.a
def m96:(List UInt8×List UInt8)→Option (List UInt8×Int) :=
 fun x=>(m113 (x.1,x.2)).bind fun r=>bif PE.notM r.2.2 then some ([],30) else (m127 ((r.1.1,r.1.2),r.2.1.1,r.2.1.2)).bind fun r_1=>(m118 (r_1.1,
 r_1.2)).bind fun r=>some (r.1,r.2)
theorem c96:SpecOK Tryz.prog 96 ⟨as96,rs96,m96⟩ :=
 fc tabs147OK [] an96 Tryz.f96 fun x=>by kernel_rfl
def tabs96:Tabs:=Tabs.add tabs147 96 ⟨as96,rs96,m96⟩
theorem tabs96OK:TabOK Tryz.prog tabs96:=TabOK.add tabs147OK c96 Tryz.call96

/-! putlog/rational.Add -/
def as67:List Ty:=[(.pair .str .str),(.pair .str .str)]
def rs67:List Ty:=[(.pair .str .str),tI]
def an67:Ann:=.seq (.a) (.seq (.reg [] [] [.s [0] [],.s [1] [],.r,z0,z0,.s [2] [2],z0] (.call [] [] (.seq (.a) (.seq (.a) (.seq (.reg [] [] [z0,.s [3] [],.s [4] [],z0,.r] (.call [] [] (.seq (.a) (.block (.loop ⟨[(8,.r (.c (.d (.d tI))))],(5::ra 9 16 ([])),[(6,.box [.d (.d .bool)])],[]⟩ [(.exit 0,⟨[],(5::ra 8 17 ([])),[(6,.box [.d (.d .bool)])],[]⟩)] (.a)))) (.a))) (.seq (.reg [0,0,0,0,8,0,32,124,0,0,512,0,2048,8188,16383,32767] (ra 0 16 ([])) [z0,z0,z0,z0,.s [3] [],z0,.s [4] [],.k [6],z0,z0,.s [4] [],z0,.s [3] [],.k [6],.k [6],z0] (.kp [] ⟨[(24,.r (.c (.d (.d .str))))],[],[(6,.box [.d (.d .bool)])],[]⟩ (.seq (.a) (.seq (.reg [] [] [z0,z0,z0,.r,z0] (.call [] [(.norm,⟨[(10,.r (.c (.d (.d .str))))],[],[(6,.box [.d (.d .bool)])],[]⟩)] (.seq (.a) (.a)) (.a))) (.a))) (.kp [] ⟨[(30,.r (.c (.d (.d .str))))],[],[(6,.box [.d (.d .bool)])],[]⟩ (.seq (.a) (.seq (.reg [] [] [z0,z0,z0,.r,z0] (.call [] [(.norm,⟨[(10,.r (.c (.d (.d .str))))],[],[(6,.box [.d (.d .bool)])],[]⟩)] (.seq (.a) (.a)) (.a))) (.a))) (.kp [] ⟨[(31,.r (.c (.d (.d .str))))],[],[(6,.box [.d (.d .bool)])],[]⟩ (.seq (.a) (.a)) (.a))))) (.seq (.reg [] [] [z0,z0,z0,z0,.s [3] [],z0,.s [4] [],.r,.r,z0,z0,.s [5] [5],z0] (.call [] [] (.seq (.a) (.seq (.reg [] [] [z0,z0,z0,.r,z0] (.call [] [(.norm,⟨[(10,.r (.c (.d (.d .str))))],[],[(6,.box [.d (.d .bool)])],[]⟩)] (.seq (.a) (.a)) (.a))) (.a))) (.call [] [(.norm,⟨[(40,.t [.s [.d (.d .str),.d (.d .str)],.c (.d (.d tI))])],[],[(6,.box [.d (.d .bool)])],[]⟩)] (.seq (.a) (.seq (.a) (.seq (.join [(.norm,⟨[(1,.r (.c (.d (.d .str)))),(2,.r (.c (.d (.d .str))))],(ra 19 9 ([])),[(6,.box [.d (.d .bool)])],[]⟩)] (.seq (.a) (.cond (.reg [] [] [z0,z0,.r,z0,z0,.r,z0,z0] (.call [] [(.norm,⟨[(24,.r (.c (.d (.d .str))))],[],[(6,.box [.d (.d .bool)])],[]⟩)] (.seq (.a) (.a)) (.call [] [(.norm,⟨[(27,.r (.c (.d (.d .str))))],[],[(6,.box [.d (.d .bool)])],[]⟩)] (.seq (.a) (.a)) (.a)))) (.a)))) (.seq (.reg [] [] [z0,z0,z0,.r,z0] (.call [] [(.norm,⟨[(31,.r (.c (.d (.d .str))))],[],[(6,.box [.d (.d .bool)])],[]⟩)] (.seq (.a) (.a)) (.a))) (.seq (.reg [] [] [z0,z0,z0,.r,z0,z0,z0,.r,z0,.s [] [8],.s [8] [8]] (.call [] [] (.seq (.a) (.seq (.reg [] [] [z0,z0,z0,.r,z0] (.call [] [(.norm,⟨[(10,.r (.c (.d (.d .str))))],[],[(6,.box [.d (.d .bool)])],[]⟩)] (.seq (.a) (.a)) (.a))) (.a))) (.call [] [] (.seq (.a) (.seq (.reg [] [] [z0,z0,z0,.r,z0] (.call [] [(.norm,⟨[(10,.r (.c (.d (.d .str))))],[],[(6,.box [.d (.d .bool)])],[]⟩)] (.seq (.a) (.a)) (.a))) (.a))) (.a)))) (.a)))))) (.a)))) (.a)))))) (.a))) (.a))
def m67:((List UInt8×List UInt8)×List UInt8×List UInt8)→Option ((List UInt8×List UInt8)×Int) :=
 fun x=>(loopM (fun (s:Int×Bool)=>bif ltM s.1 (lenM [(x.1.1,x.1.2),(x.2.1,x.2.2)]) then (idxM [(x.1.1,x.1.2),(x.2.1,x.2.2)] s.1).bind fun r=>(bif
 PE.notM s.2 then m75 (r.1,r.2) else some false).bind fun r=>some (Sum.inl (wrap IntKind.i64 (s.1+1),PE.orM s.2 (PE.notM r))) else some (Sum.inr s.2))
 (0,false)).bind fun o=>((bif o then some ([],o) else (m147 (x.1.1,x.2.2)).bind fun r=>some (r.1,PE.notM (eqM r.2 0))).bind fun (ov:List UInt8 ×
 Bool)=>some (ov.1,ov.2)).bind fun (ov:List UInt8×Bool)=>((bif ov.2 then some ([],ov.2) else (m147 (x.2.1,x.1.2)).bind fun r=>some (r.1,PE.notM
 (eqM r.2 0))).bind fun (ov:List UInt8×Bool)=>some (ov.1,ov.2)).bind fun (ov_1:List UInt8×Bool)=>(bif ov_1.2 then some ([],ov_1.2) else (m96
 (ov.1,ov_1.1)).bind fun r=>some (r.1,PE.notM (eqM r.2 0))).bind fun (ov_2:List UInt8×Bool)=>(bif ov_2.2 then some ([],ov_2.2) else (m147 (x.1.2,
 x.2.2)).bind fun r=>some (r.1,PE.notM (eqM r.2 0))).bind fun (ov_3:List UInt8×Bool)=>(bif PE.orM ov_3.2 (eqsM ov_3.1 [(48:UInt8)]) then some ([],
 [],40,ov_3.2) else ((m77 (ov_3.1,[(48:UInt8)])).bind fun r=>bif ltM r 0 then (bif ov_3.2 then some ([],ov_3.2) else (m148 ([(48:UInt8)],
 ov_2.1)).bind fun r=>some (r.1,PE.notM (eqM r.2 0))).bind fun (ov_4:List UInt8×Bool)=>(bif ov_4.2 then some ([],ov_4.2) else (m148 ([(48:UInt8)],
 ov_3.1)).bind fun r=>some (r.1,PE.notM (eqM r.2 0))).bind fun (ov:List UInt8×Bool)=>some (ov_4.1,ov.1,ov.2) else some (ov_2.1,ov_3.1,
 ov_3.2)).bind fun o_1=>(bif o_1.2.2 then some ([],o_1.2.2) else (m112 (o_1.1,o_1.2.1)).bind fun r=>some (r.1,PE.notM (eqM r.2 0))).bind fun (ov_4 :
 List UInt8×Bool)=>(bif ov_4.2 then some ([],ov_4.2) else (m182 (o_1.1,ov_4.1)).bind fun r=>some (r.1,PE.notM (eqM r.2 0))).bind fun (ov_5:List
 UInt8×Bool)=>(bif ov_5.2 then some ([],ov_5.2) else (m182 (o_1.2.1,ov_4.1)).bind fun r=>some (r.1,PE.notM (eqM r.2 0))).bind fun (ov:List UInt8 ×
 Bool)=>bif ov.2 then some ([],[],40,ov.2) else some (ov_5.1,ov.1,0,ov.2)).bind fun (ov:List UInt8×List UInt8×Int×Bool)=>some ((ov.1,
 ov.2.1),ov.2.2.1)
theorem c67:SpecOK Tryz.prog 67 ⟨as67,rs67,m67⟩ :=
 fc tabs96OK [] an67 Tryz.f67 fun x=>by kernel_rfl
def tabs67:Tabs:=Tabs.add tabs96 67 ⟨as67,rs67,m67⟩
theorem tabs67OK:TabOK Tryz.prog tabs67:=TabOK.add tabs96OK c67 Tryz.call67

/-! putlog/field.Over -/
def as33:List Ty:=[(.pair tI (.pair tI (.pair tL tL))),tQ]
def rs33:List Ty:=[(.pair .str .str),(.pair .str .str),tI]
def an33:Ann:=.seq (.a) (.seq (.a) (.seq (.seq (.reg [] [] [.s [0] [],z0,z0,z0,z0,z0,z0,z0,z0,z0,z0,.k [],z0] (.call [] [(.norm,⟨[(25,.r (.c (.d (.d .bool))))],[],[],[]⟩)] (.seq (.a) (.seq (.reg [] [] [z0,z0,.r,z0,z0] (.call [] [(.norm,⟨[(7,.r (.c (.d (.d tI))))],[],[],[]⟩)] (.seq (.a) (.seq (.seq (.a) (.block (.loop ⟨[(8,.r (.c (.d (.d tI))))],(5::ra 9 8 (18::[])),[],[]⟩ [(.exit 0,⟨[],(5::ra 8 9 (18::[])),[],[]⟩),(.ret,⟨[(4,.r (.c (.d (.d tI))))],(5::ra 8 11 ([])),[],[]⟩)] (.seq (.a) (.seq (.a) (.seq (.block (.seq (.a) (.seq (.reg [] [] [z0,z0,z0,z0,z0,.r] (.call [] [] (.seq (.a) (.a)) (.a))) (.a)))) (.a))))))) (.a))) (.a))) (.a))) (.a))) (.a)) (.seq (.a) (.seq (.seq (.a) (.block (.loop ⟨[(31,.r (.c (.d (.d tI))))],(10::ra 32 12 ([])),[(3,.box [.h 4])],[.arr tB]⟩ [(.exit 0,⟨[],(10::ra 31 13 ([])),[(3,.box [.h 4])],[.arr tB]⟩)] (.a)))) (.seq (.reg [] [] [.s [0] [],z0,.r,z0,z0,z0,.s [] [12],.s [] [13],.s [12] [12],.s [13] [13]] (.call [] [] (.seq (.a) (.seq (.reg [0,0,0,4,14,31,0,0,0,256,959,2047,4095,8191] (ra 0 14 ([])) [z0,.s [5] [],z0,.s [5] [],.k [8,9],.k [],z0,.s [5] [],z0,.s [5] [],.k [10,11],.k [],.s [6] [6],.s [7] [7]] (.kp [] ⟨[(10,.r (.c (.f 123 [] [.p 8 0,.p 9 0])))],[],[],[.box [.d (.d tL)],.box [.d (.d tI),.d (.d tI),.d (.d tL),.d (.d tL)]]⟩ (.seq (.a) (.a)) (.kp [] ⟨[(11,.r (.s [.d (.d .str),.d (.d .str)]))],[],[],[]⟩ (.seq (.a) (.seq (.a) (.seq (.seq (.reg [] [] [.s [0] [],.r] (.call [] [] (.seq (.a) (.a)) (.a))) (.block (.call [] [] (.seq (.a) (.block (.loop ⟨[(9,.r (.c (.d (.d tI))))],(3::4::5::6::ra 10 39 ([])),[(12,.box [.d (.d .str),.d (.d .str)]),(14,.lp .ready)],[]⟩ [(.exit 0,⟨[],(3::4::5::6::ra 9 40 ([])),[(12,.box [.d (.d .str),.d (.d .str)]),(14,.lp .ready)],[]⟩)] (.seq (.a) (.seq (.a) (.seq (.block (.seq (.a) (.seq (.a) (.block (.loop ⟨[(14,.r (.c (.d (.d tI))))],(4::5::6::ra 15 33 ([])),[(12,.box [.d (.d .str),.d (.d .str)]),(14,.lp .ready)],[]⟩ [(.exit 2,⟨[],(4::5::6::ra 14 34 ([])),[(12,.box [.d (.d .str),.d (.d .str)]),(14,.lp .ready)],[]⟩)] (.seq (.a) (.seq (.a) (.seq (.block (.seq (.a) (.seq (.a) (.seq (.reg [] [] [z0,.s [15] [],z0,z0,z0,z0,.s [16] [],z0,.r,z0,z0,z0,.s [15] [],.s [16] [],z0,z0,z0,z0,z0,.r,z0,z0] (.call [] [] (.seq (.a) (.block (.seq (.a) (.seq (.join [(.norm,⟨[(8,.r (.c (.h 18)))],(9::ra 28 17 ([])),[],[.arr tB]⟩)] (.seq (.a) (.block (.seq (.seq (.a) (.seq (.a) (.seq (.block (.seq (.a) (.seq (.reg [0,0,2,6,0,16,48,112,240,511,1023] (ra 0 11 ([])) [z0,z0,.s [17] [],.s [17] [],z0,z0,z0,.s [17] [],.s [17] [],.r,z0] (.call [] [] (.seq (.a) (.seq (.a) (.seq (.a) (.seq (.seq (.a) (.block (.loop ⟨[(17,.r (.c (.d (.d tI))))],(9::10::11::12::13::ra 18 71 ([])),[(20,.box [.h 21])],[.arr tB]⟩ [(.exit 0,⟨[],(9::10::11::12::13::ra 17 72 ([])),[(20,.box [.h 21])],[.arr tB]⟩)] (.seq (.a) (.seq (.a) (.seq (.join [(.norm,⟨[],(9::10::11::12::13::ra 19 69 ([])),[(20,.box [.h 22]),(21,.gone)],[.arr tB]⟩)] (.block (.seq (.a) (.seq (.a) (.seq (.reg [0,0,0,7,0,0,0,127,255,511] (ra 0 10 ([])) (.s [18] []::.s [19] []::.s [22] []::z0::.s [18] []::.s [19] []::.s [23] []::za 3 ([])) (.a)) (.seq (.join [(.norm,⟨[],[38,39,40,41,42],[(20,.box [.h 24]),(21,.gone)],[.arr tB]⟩)] (.seq (.a) (.cond (.reg [] [] [z0,.s [22] [],.r] (.call [] [(.norm,⟨[(42,.t [])],[],[(20,.box [.h 24]),(21,.gone)],[.arr tB]⟩)] (.seq (.a) (.seq (.reg [0,1,3,7,15,15,47,111,255,511,15,2047,4095] (ra 0 13 ([])) [.s [20] [],.s [21] [],z0,z0,.s [20] [],.s [20] [],.s [21] [],z0,.s [21] [],.s [21] [],.s [24] [],z0,z0] (.a)) (.a))) (.a))) (.a)))) (.seq (.a) (.cond (.reg [] [] [z0,z0,.s [22] [],z0,z0,z0,.s [23] [],z0,z0,z0,z0,.s [22] [],z0,z0,z0,.s [23] [],z0,z0,z0,z0,.s [22] [],z0,z0,z0,.s [23] [],z0,z0,z0,z0,z0,.r] (.call [] [(.norm,⟨[(87,.t [])],[],[(20,.box [.h 25]),(24,.gone)],[.arr tB]⟩)] (.seq (.a) (.seq (.reg [0,1,3,7,15,15,47,111,255,511,15,2047,4095] (ra 0 13 ([])) [.s [20] [],.s [24] [],z0,z0,.s [20] [],.s [20] [],.s [24] [],z0,.s [24] [],.s [24] [],.s [25] [],z0,z0] (.a)) (.a))) (.a))) (.a))))))))) (.a))))))) (.a))))) (.a))) (.a)))) (.a)))) (.seq (.seq (.a) (.seq (.a) (.seq (.block (.seq (.a) (.seq (.reg [0,0,2,6,0,16,48,112,240,511,1023] (ra 0 11 ([])) [z0,z0,.s [17] [],.s [17] [],z0,z0,z0,.s [17] [],.s [17] [],.r,z0] (.call [] [] (.seq (.a) (.seq (.a) (.seq (.a) (.seq (.seq (.a) (.block (.loop ⟨[(17,.r (.c (.d (.d tI))))],(9::10::11::12::13::ra 18 71 ([])),[(24,.box [.h 25])],[.arr tB]⟩ [(.exit 0,⟨[],(9::10::11::12::13::ra 17 72 ([])),[(24,.box [.h 25])],[.arr tB]⟩)] (.seq (.a) (.seq (.a) (.seq (.join [(.norm,⟨[],(9::10::11::12::13::ra 19 69 ([])),[(24,.box [.h 26]),(25,.gone)],[.arr tB]⟩)] (.block (.seq (.a) (.seq (.a) (.seq (.reg [0,0,0,7,0,0,0,127,255,511] (ra 0 10 ([])) (.s [22] []::.s [23] []::.s [26] []::z0::.s [22] []::.s [23] []::.s [27] []::za 3 ([])) (.a)) (.seq (.join [(.norm,⟨[],[38,39,40,41,42],[(24,.box [.h 28]),(25,.gone)],[.arr tB]⟩)] (.seq (.a) (.cond (.reg [] [] [z0,.s [26] [],.r] (.call [] [(.norm,⟨[(42,.t [])],[],[(24,.box [.h 28]),(25,.gone)],[.arr tB]⟩)] (.seq (.a) (.seq (.reg [0,1,3,7,15,15,47,111,255,511,15,2047,4095] (ra 0 13 ([])) [.s [24] [],.s [25] [],z0,z0,.s [24] [],.s [24] [],.s [25] [],z0,.s [25] [],.s [25] [],.s [28] [],z0,z0] (.a)) (.a))) (.a))) (.a)))) (.seq (.a) (.cond (.reg [] [] [z0,z0,.s [26] [],z0,z0,z0,.s [27] [],z0,z0,z0,z0,.s [26] [],z0,z0,z0,.s [27] [],z0,z0,z0,z0,.s [26] [],z0,z0,z0,.s [27] [],z0,z0,z0,z0,z0,.r] (.call [] [(.norm,⟨[(87,.t [])],[],[(24,.box [.h 29]),(28,.gone)],[.arr tB]⟩)] (.seq (.a) (.seq (.reg [0,1,3,7,15,15,47,111,255,511,15,2047,4095] (ra 0 13 ([])) [.s [24] [],.s [28] [],z0,z0,.s [24] [],.s [24] [],.s [28] [],z0,.s [28] [],.s [28] [],.s [29] [],z0,z0] (.a)) (.a))) (.a))) (.a))))))))) (.a))))))) (.a))))) (.a))) (.a)))) (.a)))) (.seq (.seq (.a) (.seq (.a) (.seq (.block (.seq (.a) (.seq (.reg [0,0,2,6,0,16,48,112,240,511,1023] (ra 0 11 ([])) [z0,z0,.s [17] [],.s [17] [],z0,z0,z0,.s [17] [],.s [17] [],.r,z0] (.call [] [] (.seq (.a) (.seq (.a) (.seq (.a) (.seq (.seq (.a) (.block (.loop ⟨[(17,.r (.c (.d (.d tI))))],(9::10::11::12::13::ra 18 71 ([])),[(28,.box [.h 29])],[.arr tB]⟩ [(.exit 0,⟨[],(9::10::11::12::13::ra 17 72 ([])),[(28,.box [.h 29])],[.arr tB]⟩)] (.seq (.a) (.seq (.a) (.seq (.join [(.norm,⟨[],(9::10::11::12::13::ra 19 69 ([])),[(28,.box [.h 30]),(29,.gone)],[.arr tB]⟩)] (.block (.seq (.a) (.seq (.a) (.seq (.reg [0,0,0,7,0,0,0,127,255,511] (ra 0 10 ([])) (.s [26] []::.s [27] []::.s [30] []::z0::.s [26] []::.s [27] []::.s [31] []::za 3 ([])) (.a)) (.seq (.join [(.norm,⟨[],[38,39,40,41,42],[(28,.box [.h 32]),(29,.gone)],[.arr tB]⟩)] (.seq (.a) (.cond (.reg [] [] [z0,.s [30] [],.r] (.call [] [(.norm,⟨[(42,.t [])],[],[(28,.box [.h 32]),(29,.gone)],[.arr tB]⟩)] (.seq (.a) (.seq (.reg [0,1,3,7,15,15,47,111,255,511,15,2047,4095] (ra 0 13 ([])) [.s [28] [],.s [29] [],z0,z0,.s [28] [],.s [28] [],.s [29] [],z0,.s [29] [],.s [29] [],.s [32] [],z0,z0] (.a)) (.a))) (.a))) (.a)))) (.seq (.a) (.cond (.reg [] [] [z0,z0,.s [30] [],z0,z0,z0,.s [31] [],z0,z0,z0,z0,.s [30] [],z0,z0,z0,.s [31] [],z0,z0,z0,z0,.s [30] [],z0,z0,z0,.s [31] [],z0,z0,z0,z0,z0,.r] (.call [] [(.norm,⟨[(87,.t [])],[],[(28,.box [.h 33]),(32,.gone)],[.arr tB]⟩)] (.seq (.a) (.seq (.reg [0,1,3,7,15,15,47,111,255,511,15,2047,4095] (ra 0 13 ([])) [.s [28] [],.s [32] [],z0,z0,.s [28] [],.s [28] [],.s [32] [],z0,.s [32] [],.s [32] [],.s [33] [],z0,z0] (.a)) (.a))) (.a))) (.a))))))))) (.a))))))) (.a))))) (.a))) (.a)))) (.a)))) (.seq (.a) (.join [] (.a))))))))) (.seq (.a) (.seq (.a) (.block (.loop ⟨[(11,.r (.c (.d (.d tI))))],(ra 12 8 (ra 46 116 ([]))),[(12,.box [.d (.d .str),.d (.d .str)])],[]⟩ [(.exit 4,⟨[],(ra 11 9 (ra 46 116 ([]))),[(12,.box [.d (.d .str),.d (.d .str)])],[]⟩)] (.seq (.a) (.seq (.block (.seq (.reg [0,1,3,0,0,16,56,120,0,0,768,1792,0,0,0,28679,61695,131071] (ra 0 18 ([])) (z0::.s [18] []::.s [18] []::za 3 (.s [18] []::.s [18] []::z0::z0::.s [18] []::.s [18] []::.s [] [19]::.s [] [20]::.s [] [21]::.s [19] [19]::.s [20] [20]::.s [21] [21]::[])) (.a)) (.seq (.a) (.seq (.a) (.seq (.reg [0,0,3,0,8,31,0,64,255,0,0,1543,0,4096,15879,0,32768,130567,262143,0,0,1576455,0,4194304,16256519,0,33554432,133697031,268435455,536870911] (ra 0 30 ([])) [z0,.s [19] [],.k [],z0,.s [20] [],z0,z0,.s [21] [],z0,z0,.s [20] [],.k [],z0,.s [19] [],z0,z0,.s [21] [],z0,z0,z0,.s [21] [],.k [],z0,.s [19] [],z0,z0,.s [20] [],z0,z0,z0] (.kp [] ⟨[(118,.r (.c (.d (.d tI))))],[],[],[]⟩ (.seq (.a) (.seq (.a) (.seq (.seq (.a) (.block (.seq (.seq (.a) (.seq (.a) (.seq (.block (.seq (.a) (.reg [0,0,0,4,12,30,0,64,192,448,960,0,2048,6144,14336,30720,0,131070,262142,524287,1048575] (ra 0 21 ([])) [z0,.s [10] [],z0,.s [17] [],.s [17] [],.k [],z0,z0,z0,.s [17] [],.s [17] [],z0,z0,z0,.s [17] [],.s [17] [],.s [22] [],z0,z0,z0,z0] (.kp [] ⟨[(15,.r (.c (.d (.d tI))))],[],[],[]⟩ (.seq (.a) (.a)) (.a))))) (.a)))) (.seq (.seq (.a) (.seq (.a) (.seq (.block (.seq (.a) (.reg [0,0,0,4,12,30,0,64,192,448,960,0,2048,6144,14336,30720,0,131070,262142,524287,1048575] (ra 0 21 ([])) [z0,.s [10] [],z0,.s [17] [],.s [17] [],.k [],z0,z0,z0,.s [17] [],.s [17] [],z0,z0,z0,.s [17] [],.s [17] [],.s [22] [],z0,z0,z0,z0] (.kp [] ⟨[(15,.r (.c (.d (.d tI))))],[],[],[]⟩ (.seq (.a) (.a)) (.a))))) (.a)))) (.seq (.seq (.a) (.seq (.a) (.seq (.block (.seq (.a) (.reg [0,0,0,4,12,30,0,64,192,448,960,0,2048,6144,14336,30720,0,131070,262142,524287,1048575] (ra 0 21 ([])) [z0,.s [10] [],z0,.s [17] [],.s [17] [],.k [],z0,z0,z0,.s [17] [],.s [17] [],z0,z0,z0,.s [17] [],.s [17] [],.s [22] [],z0,z0,z0,z0] (.kp [] ⟨[(15,.r (.c (.d (.d tI))))],[],[],[]⟩ (.seq (.a) (.a)) (.a))))) (.a)))) (.seq (.a) (.join [] (.a)))))))) (.a)))) (.kp [] ⟨[(127,.r (.c (.d (.d tI))))],[],[],[]⟩ (.seq (.a) (.seq (.a) (.seq (.seq (.a) (.block (.seq (.seq (.a) (.seq (.a) (.seq (.block (.seq (.a) (.reg [0,0,0,4,12,30,0,64,192,448,960,0,2048,6144,14336,30720,0,131070,262142,524287,1048575] (ra 0 21 ([])) [z0,.s [10] [],z0,.s [17] [],.s [17] [],.k [],z0,z0,z0,.s [17] [],.s [17] [],z0,z0,z0,.s [17] [],.s [17] [],.s [22] [],z0,z0,z0,z0] (.kp [] ⟨[(15,.r (.c (.d (.d tI))))],[],[],[]⟩ (.seq (.a) (.a)) (.a))))) (.a)))) (.seq (.seq (.a) (.seq (.a) (.seq (.block (.seq (.a) (.reg [0,0,0,4,12,30,0,64,192,448,960,0,2048,6144,14336,30720,0,131070,262142,524287,1048575] (ra 0 21 ([])) [z0,.s [10] [],z0,.s [17] [],.s [17] [],.k [],z0,z0,z0,.s [17] [],.s [17] [],z0,z0,z0,.s [17] [],.s [17] [],.s [22] [],z0,z0,z0,z0] (.kp [] ⟨[(15,.r (.c (.d (.d tI))))],[],[],[]⟩ (.seq (.a) (.a)) (.a))))) (.a)))) (.seq (.seq (.a) (.seq (.a) (.seq (.block (.seq (.a) (.reg [0,0,0,4,12,30,0,64,192,448,960,0,2048,6144,14336,30720,0,131070,262142,524287,1048575] (ra 0 21 ([])) [z0,.s [10] [],z0,.s [17] [],.s [17] [],.k [],z0,z0,z0,.s [17] [],.s [17] [],z0,z0,z0,.s [17] [],.s [17] [],.s [22] [],z0,z0,z0,z0] (.kp [] ⟨[(15,.r (.c (.d (.d tI))))],[],[],[]⟩ (.seq (.a) (.a)) (.a))))) (.a)))) (.seq (.a) (.join [] (.a)))))))) (.a)))) (.kp [] ⟨[(137,.r (.c (.d (.d tI))))],[],[],[]⟩ (.seq (.a) (.seq (.a) (.seq (.seq (.a) (.block (.seq (.seq (.a) (.seq (.a) (.seq (.block (.seq (.a) (.reg [0,0,0,4,12,30,0,64,192,448,960,0,2048,6144,14336,30720,0,131070,262142,524287,1048575] (ra 0 21 ([])) [z0,.s [10] [],z0,.s [17] [],.s [17] [],.k [],z0,z0,z0,.s [17] [],.s [17] [],z0,z0,z0,.s [17] [],.s [17] [],.s [22] [],z0,z0,z0,z0] (.kp [] ⟨[(15,.r (.c (.d (.d tI))))],[],[],[]⟩ (.seq (.a) (.a)) (.a))))) (.a)))) (.seq (.seq (.a) (.seq (.a) (.seq (.block (.seq (.a) (.reg [0,0,0,4,12,30,0,64,192,448,960,0,2048,6144,14336,30720,0,131070,262142,524287,1048575] (ra 0 21 ([])) [z0,.s [10] [],z0,.s [17] [],.s [17] [],.k [],z0,z0,z0,.s [17] [],.s [17] [],z0,z0,z0,.s [17] [],.s [17] [],.s [22] [],z0,z0,z0,z0] (.kp [] ⟨[(15,.r (.c (.d (.d tI))))],[],[],[]⟩ (.seq (.a) (.a)) (.a))))) (.a)))) (.seq (.seq (.a) (.seq (.a) (.seq (.block (.seq (.a) (.reg [0,0,0,4,12,30,0,64,192,448,960,0,2048,6144,14336,30720,0,131070,262142,524287,1048575] (ra 0 21 ([])) [z0,.s [10] [],z0,.s [17] [],.s [17] [],.k [],z0,z0,z0,.s [17] [],.s [17] [],z0,z0,z0,.s [17] [],.s [17] [],.s [22] [],z0,z0,z0,z0] (.kp [] ⟨[(15,.r (.c (.d (.d tI))))],[],[],[]⟩ (.seq (.a) (.a)) (.a))))) (.a)))) (.seq (.a) (.join [] (.a)))))))) (.a)))) (.a))))) (.a)))))) (.a))))))))))) (.gq z0 (.gq (.s [15] []) (.gq (.s [16] []) (.gq z0 (.gq z0 (.gq z0 (.gq z0 (.gq z0 (.gq (.r) (.call [] [] (.seq (.a) (.block (.seq (.a) (.seq (.join [(.norm,⟨[(8,.r (.c (.h 20)))],(9::ra 28 17 ([])),[],[.arr tB]⟩)] (.seq (.a) (.block (.seq (.seq (.a) (.seq (.a) (.seq (.block (.seq (.a) (.seq (.reg [0,0,2,6,0,16,48,112,240,511,1023] (ra 0 11 ([])) [z0,z0,.s [19] [],.s [19] [],z0,z0,z0,.s [19] [],.s [19] [],.r,z0] (.call [] [] (.seq (.a) (.seq (.a) (.seq (.a) (.seq (.seq (.a) (.block (.loop ⟨[(17,.r (.c (.d (.d tI))))],(9::10::11::12::13::ra 18 71 ([])),[(22,.box [.h 23])],[.arr tB]⟩ [(.exit 0,⟨[],(9::10::11::12::13::ra 17 72 ([])),[(22,.box [.h 23])],[.arr tB]⟩)] (.seq (.a) (.seq (.a) (.seq (.join [(.norm,⟨[],(9::10::11::12::13::ra 19 69 ([])),[(22,.box [.h 24]),(23,.gone)],[.arr tB]⟩)] (.block (.seq (.a) (.seq (.a) (.seq (.reg [0,0,0,7,0,0,0,127,255,511] (ra 0 10 ([])) (.s [20] []::.s [21] []::.s [24] []::z0::.s [20] []::.s [21] []::.s [25] []::za 3 ([])) (.a)) (.seq (.join [(.norm,⟨[],[38,39,40,41,42],[(22,.box [.h 26]),(23,.gone)],[.arr tB]⟩)] (.seq (.a) (.cond (.reg [] [] [z0,.s [24] [],.r] (.call [] [(.norm,⟨[(42,.t [])],[],[(22,.box [.h 26]),(23,.gone)],[.arr tB]⟩)] (.seq (.a) (.seq (.reg [0,1,3,7,15,15,47,111,255,511,15,2047,4095] (ra 0 13 ([])) [.s [22] [],.s [23] [],z0,z0,.s [22] [],.s [22] [],.s [23] [],z0,.s [23] [],.s [23] [],.s [26] [],z0,z0] (.a)) (.a))) (.a))) (.a)))) (.seq (.a) (.cond (.reg [] [] [z0,z0,.s [24] [],z0,z0,z0,.s [25] [],z0,z0,z0,z0,.s [24] [],z0,z0,z0,.s [25] [],z0,z0,z0,z0,.s [24] [],z0,z0,z0,.s [25] [],z0,z0,z0,z0,z0,.r] (.call [] [(.norm,⟨[(87,.t [])],[],[(22,.box [.h 27]),(26,.gone)],[.arr tB]⟩)] (.seq (.a) (.seq (.reg [0,1,3,7,15,15,47,111,255,511,15,2047,4095] (ra 0 13 ([])) [.s [22] [],.s [26] [],z0,z0,.s [22] [],.s [22] [],.s [26] [],z0,.s [26] [],.s [26] [],.s [27] [],z0,z0] (.a)) (.a))) (.a))) (.a))))))))) (.a))))))) (.a))))) (.a))) (.a)))) (.a)))) (.seq (.seq (.a) (.seq (.a) (.seq (.block (.seq (.a) (.seq (.reg [0,0,2,6,0,16,48,112,240,511,1023] (ra 0 11 ([])) [z0,z0,.s [19] [],.s [19] [],z0,z0,z0,.s [19] [],.s [19] [],.r,z0] (.call [] [] (.seq (.a) (.seq (.a) (.seq (.a) (.seq (.seq (.a) (.block (.loop ⟨[(17,.r (.c (.d (.d tI))))],(9::10::11::12::13::ra 18 71 ([])),[(26,.box [.h 27])],[.arr tB]⟩ [(.exit 0,⟨[],(9::10::11::12::13::ra 17 72 ([])),[(26,.box [.h 27])],[.arr tB]⟩)] (.seq (.a) (.seq (.a) (.seq (.join [(.norm,⟨[],(9::10::11::12::13::ra 19 69 ([])),[(26,.box [.h 28]),(27,.gone)],[.arr tB]⟩)] (.block (.seq (.a) (.seq (.a) (.seq (.reg [0,0,0,7,0,0,0,127,255,511] (ra 0 10 ([])) (.s [24] []::.s [25] []::.s [28] []::z0::.s [24] []::.s [25] []::.s [29] []::za 3 ([])) (.a)) (.seq (.join [(.norm,⟨[],[38,39,40,41,42],[(26,.box [.h 30]),(27,.gone)],[.arr tB]⟩)] (.seq (.a) (.cond (.reg [] [] [z0,.s [28] [],.r] (.call [] [(.norm,⟨[(42,.t [])],[],[(26,.box [.h 30]),(27,.gone)],[.arr tB]⟩)] (.seq (.a) (.seq (.reg [0,1,3,7,15,15,47,111,255,511,15,2047,4095] (ra 0 13 ([])) [.s [26] [],.s [27] [],z0,z0,.s [26] [],.s [26] [],.s [27] [],z0,.s [27] [],.s [27] [],.s [30] [],z0,z0] (.a)) (.a))) (.a))) (.a)))) (.seq (.a) (.cond (.reg [] [] [z0,z0,.s [28] [],z0,z0,z0,.s [29] [],z0,z0,z0,z0,.s [28] [],z0,z0,z0,.s [29] [],z0,z0,z0,z0,.s [28] [],z0,z0,z0,.s [29] [],z0,z0,z0,z0,z0,.r] (.call [] [(.norm,⟨[(87,.t [])],[],[(26,.box [.h 31]),(30,.gone)],[.arr tB]⟩)] (.seq (.a) (.seq (.reg [0,1,3,7,15,15,47,111,255,511,15,2047,4095] (ra 0 13 ([])) [.s [26] [],.s [30] [],z0,z0,.s [26] [],.s [26] [],.s [30] [],z0,.s [30] [],.s [30] [],.s [31] [],z0,z0] (.a)) (.a))) (.a))) (.a))))))))) (.a))))))) (.a))))) (.a))) (.a)))) (.a)))) (.seq (.seq (.a) (.seq (.a) (.seq (.block (.seq (.a) (.seq (.reg [0,0,2,6,0,16,48,112,240,511,1023] (ra 0 11 ([])) [z0,z0,.s [19] [],.s [19] [],z0,z0,z0,.s [19] [],.s [19] [],.r,z0] (.call [] [] (.seq (.a) (.seq (.a) (.seq (.a) (.seq (.seq (.a) (.block (.loop ⟨[(17,.r (.c (.d (.d tI))))],(9::10::11::12::13::ra 18 71 ([])),[(30,.box [.h 31])],[.arr tB]⟩ [(.exit 0,⟨[],(9::10::11::12::13::ra 17 72 ([])),[(30,.box [.h 31])],[.arr tB]⟩)] (.seq (.a) (.seq (.a) (.seq (.join [(.norm,⟨[],(9::10::11::12::13::ra 19 69 ([])),[(30,.box [.h 32]),(31,.gone)],[.arr tB]⟩)] (.block (.seq (.a) (.seq (.a) (.seq (.reg [0,0,0,7,0,0,0,127,255,511] (ra 0 10 ([])) (.s [28] []::.s [29] []::.s [32] []::z0::.s [28] []::.s [29] []::.s [33] []::za 3 ([])) (.a)) (.seq (.join [(.norm,⟨[],[38,39,40,41,42],[(30,.box [.h 34]),(31,.gone)],[.arr tB]⟩)] (.seq (.a) (.cond (.reg [] [] [z0,.s [32] [],.r] (.call [] [(.norm,⟨[(42,.t [])],[],[(30,.box [.h 34]),(31,.gone)],[.arr tB]⟩)] (.seq (.a) (.seq (.reg [0,1,3,7,15,15,47,111,255,511,15,2047,4095] (ra 0 13 ([])) [.s [30] [],.s [31] [],z0,z0,.s [30] [],.s [30] [],.s [31] [],z0,.s [31] [],.s [31] [],.s [34] [],z0,z0] (.a)) (.a))) (.a))) (.a)))) (.seq (.a) (.cond (.reg [] [] [z0,z0,.s [32] [],z0,z0,z0,.s [33] [],z0,z0,z0,z0,.s [32] [],z0,z0,z0,.s [33] [],z0,z0,z0,z0,.s [32] [],z0,z0,z0,.s [33] [],z0,z0,z0,z0,z0,.r] (.call [] [(.norm,⟨[(87,.t [])],[],[(30,.box [.h 35]),(34,.gone)],[.arr tB]⟩)] (.seq (.a) (.seq (.reg [0,1,3,7,15,15,47,111,255,511,15,2047,4095] (ra 0 13 ([])) [.s [30] [],.s [34] [],z0,z0,.s [30] [],.s [30] [],.s [34] [],z0,.s [34] [],.s [34] [],.s [35] [],z0,z0] (.a)) (.a))) (.a))) (.a))))))))) (.a))))))) (.a))))) (.a))) (.a)))) (.a)))) (.seq (.a) (.join [] (.a))))))))) (.seq (.a) (.seq (.a) (.block (.loop ⟨[(11,.r (.c (.d (.d tI))))],(ra 12 8 (ra 46 116 ([]))),[(12,.box [.d (.d .str),.d (.d .str)])],[]⟩ [(.exit 4,⟨[],(ra 11 9 (ra 46 116 ([]))),[(12,.box [.d (.d .str),.d (.d .str)])],[]⟩)] (.seq (.a) (.seq (.block (.seq (.reg [0,1,3,0,0,16,56,120,0,0,768,1792,0,0,0,28679,61695,131071] (ra 0 18 ([])) (z0::.s [20] []::.s [20] []::za 3 (.s [20] []::.s [20] []::z0::z0::.s [20] []::.s [20] []::.s [] [21]::.s [] [22]::.s [] [23]::.s [21] [21]::.s [22] [22]::.s [23] [23]::[])) (.a)) (.seq (.a) (.seq (.a) (.seq (.reg [0,0,3,0,8,31,0,64,255,0,0,1543,0,4096,15879,0,32768,130567,262143,0,0,1576455,0,4194304,16256519,0,33554432,133697031,268435455,536870911] (ra 0 30 ([])) [z0,.s [21] [],.k [],z0,.s [22] [],z0,z0,.s [23] [],z0,z0,.s [22] [],.k [],z0,.s [21] [],z0,z0,.s [23] [],z0,z0,z0,.s [23] [],.k [],z0,.s [21] [],z0,z0,.s [22] [],z0,z0,z0] (.kp [] ⟨[(118,.r (.c (.d (.d tI))))],[],[],[]⟩ (.seq (.a) (.seq (.a) (.seq (.seq (.a) (.block (.seq (.seq (.a) (.seq (.a) (.seq (.block (.seq (.a) (.reg [0,0,0,4,12,30,0,64,192,448,960,0,2048,6144,14336,30720,0,131070,262142,524287,1048575] (ra 0 21 ([])) [z0,.s [10] [],z0,.s [19] [],.s [19] [],.k [],z0,z0,z0,.s [19] [],.s [19] [],z0,z0,z0,.s [19] [],.s [19] [],.s [24] [],z0,z0,z0,z0] (.kp [] ⟨[(15,.r (.c (.d (.d tI))))],[],[],[]⟩ (.seq (.a) (.a)) (.a))))) (.a)))) (.seq (.seq (.a) (.seq (.a) (.seq (.block (.seq (.a) (.reg [0,0,0,4,12,30,0,64,192,448,960,0,2048,6144,14336,30720,0,131070,262142,524287,1048575] (ra 0 21 ([])) [z0,.s [10] [],z0,.s [19] [],.s [19] [],.k [],z0,z0,z0,.s [19] [],.s [19] [],z0,z0,z0,.s [19] [],.s [19] [],.s [24] [],z0,z0,z0,z0] (.kp [] ⟨[(15,.r (.c (.d (.d tI))))],[],[],[]⟩ (.seq (.a) (.a)) (.a))))) (.a)))) (.seq (.seq (.a) (.seq (.a) (.seq (.block (.seq (.a) (.reg [0,0,0,4,12,30,0,64,192,448,960,0,2048,6144,14336,30720,0,131070,262142,524287,1048575] (ra 0 21 ([])) [z0,.s [10] [],z0,.s [19] [],.s [19] [],.k [],z0,z0,z0,.s [19] [],.s [19] [],z0,z0,z0,.s [19] [],.s [19] [],.s [24] [],z0,z0,z0,z0] (.kp [] ⟨[(15,.r (.c (.d (.d tI))))],[],[],[]⟩ (.seq (.a) (.a)) (.a))))) (.a)))) (.seq (.a) (.join [] (.a)))))))) (.a)))) (.kp [] ⟨[(127,.r (.c (.d (.d tI))))],[],[],[]⟩ (.seq (.a) (.seq (.a) (.seq (.seq (.a) (.block (.seq (.seq (.a) (.seq (.a) (.seq (.block (.seq (.a) (.reg [0,0,0,4,12,30,0,64,192,448,960,0,2048,6144,14336,30720,0,131070,262142,524287,1048575] (ra 0 21 ([])) [z0,.s [10] [],z0,.s [19] [],.s [19] [],.k [],z0,z0,z0,.s [19] [],.s [19] [],z0,z0,z0,.s [19] [],.s [19] [],.s [24] [],z0,z0,z0,z0] (.kp [] ⟨[(15,.r (.c (.d (.d tI))))],[],[],[]⟩ (.seq (.a) (.a)) (.a))))) (.a)))) (.seq (.seq (.a) (.seq (.a) (.seq (.block (.seq (.a) (.reg [0,0,0,4,12,30,0,64,192,448,960,0,2048,6144,14336,30720,0,131070,262142,524287,1048575] (ra 0 21 ([])) [z0,.s [10] [],z0,.s [19] [],.s [19] [],.k [],z0,z0,z0,.s [19] [],.s [19] [],z0,z0,z0,.s [19] [],.s [19] [],.s [24] [],z0,z0,z0,z0] (.kp [] ⟨[(15,.r (.c (.d (.d tI))))],[],[],[]⟩ (.seq (.a) (.a)) (.a))))) (.a)))) (.seq (.seq (.a) (.seq (.a) (.seq (.block (.seq (.a) (.reg [0,0,0,4,12,30,0,64,192,448,960,0,2048,6144,14336,30720,0,131070,262142,524287,1048575] (ra 0 21 ([])) [z0,.s [10] [],z0,.s [19] [],.s [19] [],.k [],z0,z0,z0,.s [19] [],.s [19] [],z0,z0,z0,.s [19] [],.s [19] [],.s [24] [],z0,z0,z0,z0] (.kp [] ⟨[(15,.r (.c (.d (.d tI))))],[],[],[]⟩ (.seq (.a) (.a)) (.a))))) (.a)))) (.seq (.a) (.join [] (.a)))))))) (.a)))) (.kp [] ⟨[(137,.r (.c (.d (.d tI))))],[],[],[]⟩ (.seq (.a) (.seq (.a) (.seq (.seq (.a) (.block (.seq (.seq (.a) (.seq (.a) (.seq (.block (.seq (.a) (.reg [0,0,0,4,12,30,0,64,192,448,960,0,2048,6144,14336,30720,0,131070,262142,524287,1048575] (ra 0 21 ([])) [z0,.s [10] [],z0,.s [19] [],.s [19] [],.k [],z0,z0,z0,.s [19] [],.s [19] [],z0,z0,z0,.s [19] [],.s [19] [],.s [24] [],z0,z0,z0,z0] (.kp [] ⟨[(15,.r (.c (.d (.d tI))))],[],[],[]⟩ (.seq (.a) (.a)) (.a))))) (.a)))) (.seq (.seq (.a) (.seq (.a) (.seq (.block (.seq (.a) (.reg [0,0,0,4,12,30,0,64,192,448,960,0,2048,6144,14336,30720,0,131070,262142,524287,1048575] (ra 0 21 ([])) [z0,.s [10] [],z0,.s [19] [],.s [19] [],.k [],z0,z0,z0,.s [19] [],.s [19] [],z0,z0,z0,.s [19] [],.s [19] [],.s [24] [],z0,z0,z0,z0] (.kp [] ⟨[(15,.r (.c (.d (.d tI))))],[],[],[]⟩ (.seq (.a) (.a)) (.a))))) (.a)))) (.seq (.seq (.a) (.seq (.a) (.seq (.block (.seq (.a) (.reg [0,0,0,4,12,30,0,64,192,448,960,0,2048,6144,14336,30720,0,131070,262142,524287,1048575] (ra 0 21 ([])) [z0,.s [10] [],z0,.s [19] [],.s [19] [],.k [],z0,z0,z0,.s [19] [],.s [19] [],z0,z0,z0,.s [19] [],.s [19] [],.s [24] [],z0,z0,z0,z0] (.kp [] ⟨[(15,.r (.c (.d (.d tI))))],[],[],[]⟩ (.seq (.a) (.a)) (.a))))) (.a)))) (.seq (.a) (.join [] (.a)))))))) (.a)))) (.a))))) (.a)))))) (.a))))))))))) (.gq z0 (.a) (.a))) (.a)) (.a)) (.a)) (.a)) (.a)) (.a)) (.a)) (.a)) (.a)))) (.a))))) (.a))))))))) (.a))))))) (.a)))) (.a)))) (.kp [] ⟨[(16,.r (.c (.f 123 [] [.p 10 0,.p 11 0])))],[],[],[.box [.d (.d tL)],.box [.d (.d tI),.d (.d tI),.d (.d tL),.d (.d tL)]]⟩ (.seq (.a) (.a)) (.kp [] ⟨[(17,.r (.s [.d (.d .str),.d (.d .str)]))],[],[],[]⟩ (.seq (.a) (.seq (.a) (.seq (.seq (.reg [] [] [.s [0] [],.r] (.call [] [] (.seq (.a) (.a)) (.a))) (.block (.call [] [] (.seq (.a) (.block (.loop ⟨[(9,.r (.c (.d (.d tI))))],(3::4::5::6::ra 10 39 ([])),[(14,.box [.d (.d .str),.d (.d .str)]),(16,.lp .ready)],[]⟩ [(.exit 0,⟨[],(3::4::5::6::ra 9 40 ([])),[(14,.box [.d (.d .str),.d (.d .str)]),(16,.lp .ready)],[]⟩)] (.seq (.a) (.seq (.a) (.seq (.block (.seq (.a) (.seq (.a) (.block (.loop ⟨[(14,.r (.c (.d (.d tI))))],(4::5::6::ra 15 33 ([])),[(14,.box [.d (.d .str),.d (.d .str)]),(16,.lp .ready)],[]⟩ [(.exit 2,⟨[],(4::5::6::ra 14 34 ([])),[(14,.box [.d (.d .str),.d (.d .str)]),(16,.lp .ready)],[]⟩)] (.seq (.a) (.seq (.a) (.seq (.block (.seq (.a) (.seq (.a) (.seq (.reg [] [] [z0,.s [17] [],z0,z0,z0,z0,.s [18] [],z0,.r,z0,z0,z0,.s [17] [],.s [18] [],z0,z0,z0,z0,z0,.r,z0,z0] (.call [] [] (.seq (.a) (.block (.seq (.a) (.seq (.join [(.norm,⟨[(8,.r (.c (.h 20)))],(9::ra 28 17 ([])),[],[.arr tB]⟩)] (.seq (.a) (.block (.seq (.seq (.a) (.seq (.a) (.seq (.block (.seq (.a) (.seq (.reg [0,0,2,6,0,16,48,112,240,511,1023] (ra 0 11 ([])) [z0,z0,.s [19] [],.s [19] [],z0,z0,z0,.s [19] [],.s [19] [],.r,z0] (.call [] [] (.seq (.a) (.seq (.a) (.seq (.a) (.seq (.seq (.a) (.block (.loop ⟨[(17,.r (.c (.d (.d tI))))],(9::10::11::12::13::ra 18 71 ([])),[(22,.box [.h 23])],[.arr tB]⟩ [(.exit 0,⟨[],(9::10::11::12::13::ra 17 72 ([])),[(22,.box [.h 23])],[.arr tB]⟩)] (.seq (.a) (.seq (.a) (.seq (.join [(.norm,⟨[],(9::10::11::12::13::ra 19 69 ([])),[(22,.box [.h 24]),(23,.gone)],[.arr tB]⟩)] (.block (.seq (.a) (.seq (.a) (.seq (.reg [0,0,0,7,0,0,0,127,255,511] (ra 0 10 ([])) (.s [20] []::.s [21] []::.s [24] []::z0::.s [20] []::.s [21] []::.s [25] []::za 3 ([])) (.a)) (.seq (.join [(.norm,⟨[],[38,39,40,41,42],[(22,.box [.h 26]),(23,.gone)],[.arr tB]⟩)] (.seq (.a) (.cond (.reg [] [] [z0,.s [24] [],.r] (.call [] [(.norm,⟨[(42,.t [])],[],[(22,.box [.h 26]),(23,.gone)],[.arr tB]⟩)] (.seq (.a) (.seq (.reg [0,1,3,7,15,15,47,111,255,511,15,2047,4095] (ra 0 13 ([])) [.s [22] [],.s [23] [],z0,z0,.s [22] [],.s [22] [],.s [23] [],z0,.s [23] [],.s [23] [],.s [26] [],z0,z0] (.a)) (.a))) (.a))) (.a)))) (.seq (.a) (.cond (.reg [] [] [z0,z0,.s [24] [],z0,z0,z0,.s [25] [],z0,z0,z0,z0,.s [24] [],z0,z0,z0,.s [25] [],z0,z0,z0,z0,.s [24] [],z0,z0,z0,.s [25] [],z0,z0,z0,z0,z0,.r] (.call [] [(.norm,⟨[(87,.t [])],[],[(22,.box [.h 27]),(26,.gone)],[.arr tB]⟩)] (.seq (.a) (.seq (.reg [0,1,3,7,15,15,47,111,255,511,15,2047,4095] (ra 0 13 ([])) [.s [22] [],.s [26] [],z0,z0,.s [22] [],.s [22] [],.s [26] [],z0,.s [26] [],.s [26] [],.s [27] [],z0,z0] (.a)) (.a))) (.a))) (.a))))))))) (.a))))))) (.a))))) (.a))) (.a)))) (.a)))) (.seq (.seq (.a) (.seq (.a) (.seq (.block (.seq (.a) (.seq (.reg [0,0,2,6,0,16,48,112,240,511,1023] (ra 0 11 ([])) [z0,z0,.s [19] [],.s [19] [],z0,z0,z0,.s [19] [],.s [19] [],.r,z0] (.call [] [] (.seq (.a) (.seq (.a) (.seq (.a) (.seq (.seq (.a) (.block (.loop ⟨[(17,.r (.c (.d (.d tI))))],(9::10::11::12::13::ra 18 71 ([])),[(26,.box [.h 27])],[.arr tB]⟩ [(.exit 0,⟨[],(9::10::11::12::13::ra 17 72 ([])),[(26,.box [.h 27])],[.arr tB]⟩)] (.seq (.a) (.seq (.a) (.seq (.join [(.norm,⟨[],(9::10::11::12::13::ra 19 69 ([])),[(26,.box [.h 28]),(27,.gone)],[.arr tB]⟩)] (.block (.seq (.a) (.seq (.a) (.seq (.reg [0,0,0,7,0,0,0,127,255,511] (ra 0 10 ([])) (.s [24] []::.s [25] []::.s [28] []::z0::.s [24] []::.s [25] []::.s [29] []::za 3 ([])) (.a)) (.seq (.join [(.norm,⟨[],[38,39,40,41,42],[(26,.box [.h 30]),(27,.gone)],[.arr tB]⟩)] (.seq (.a) (.cond (.reg [] [] [z0,.s [28] [],.r] (.call [] [(.norm,⟨[(42,.t [])],[],[(26,.box [.h 30]),(27,.gone)],[.arr tB]⟩)] (.seq (.a) (.seq (.reg [0,1,3,7,15,15,47,111,255,511,15,2047,4095] (ra 0 13 ([])) [.s [26] [],.s [27] [],z0,z0,.s [26] [],.s [26] [],.s [27] [],z0,.s [27] [],.s [27] [],.s [30] [],z0,z0] (.a)) (.a))) (.a))) (.a)))) (.seq (.a) (.cond (.reg [] [] [z0,z0,.s [28] [],z0,z0,z0,.s [29] [],z0,z0,z0,z0,.s [28] [],z0,z0,z0,.s [29] [],z0,z0,z0,z0,.s [28] [],z0,z0,z0,.s [29] [],z0,z0,z0,z0,z0,.r] (.call [] [(.norm,⟨[(87,.t [])],[],[(26,.box [.h 31]),(30,.gone)],[.arr tB]⟩)] (.seq (.a) (.seq (.reg [0,1,3,7,15,15,47,111,255,511,15,2047,4095] (ra 0 13 ([])) [.s [26] [],.s [30] [],z0,z0,.s [26] [],.s [26] [],.s [30] [],z0,.s [30] [],.s [30] [],.s [31] [],z0,z0] (.a)) (.a))) (.a))) (.a))))))))) (.a))))))) (.a))))) (.a))) (.a)))) (.a)))) (.seq (.seq (.a) (.seq (.a) (.seq (.block (.seq (.a) (.seq (.reg [0,0,2,6,0,16,48,112,240,511,1023] (ra 0 11 ([])) [z0,z0,.s [19] [],.s [19] [],z0,z0,z0,.s [19] [],.s [19] [],.r,z0] (.call [] [] (.seq (.a) (.seq (.a) (.seq (.a) (.seq (.seq (.a) (.block (.loop ⟨[(17,.r (.c (.d (.d tI))))],(9::10::11::12::13::ra 18 71 ([])),[(30,.box [.h 31])],[.arr tB]⟩ [(.exit 0,⟨[],(9::10::11::12::13::ra 17 72 ([])),[(30,.box [.h 31])],[.arr tB]⟩)] (.seq (.a) (.seq (.a) (.seq (.join [(.norm,⟨[],(9::10::11::12::13::ra 19 69 ([])),[(30,.box [.h 32]),(31,.gone)],[.arr tB]⟩)] (.block (.seq (.a) (.seq (.a) (.seq (.reg [0,0,0,7,0,0,0,127,255,511] (ra 0 10 ([])) (.s [28] []::.s [29] []::.s [32] []::z0::.s [28] []::.s [29] []::.s [33] []::za 3 ([])) (.a)) (.seq (.join [(.norm,⟨[],[38,39,40,41,42],[(30,.box [.h 34]),(31,.gone)],[.arr tB]⟩)] (.seq (.a) (.cond (.reg [] [] [z0,.s [32] [],.r] (.call [] [(.norm,⟨[(42,.t [])],[],[(30,.box [.h 34]),(31,.gone)],[.arr tB]⟩)] (.seq (.a) (.seq (.reg [0,1,3,7,15,15,47,111,255,511,15,2047,4095] (ra 0 13 ([])) [.s [30] [],.s [31] [],z0,z0,.s [30] [],.s [30] [],.s [31] [],z0,.s [31] [],.s [31] [],.s [34] [],z0,z0] (.a)) (.a))) (.a))) (.a)))) (.seq (.a) (.cond (.reg [] [] [z0,z0,.s [32] [],z0,z0,z0,.s [33] [],z0,z0,z0,z0,.s [32] [],z0,z0,z0,.s [33] [],z0,z0,z0,z0,.s [32] [],z0,z0,z0,.s [33] [],z0,z0,z0,z0,z0,.r] (.call [] [(.norm,⟨[(87,.t [])],[],[(30,.box [.h 35]),(34,.gone)],[.arr tB]⟩)] (.seq (.a) (.seq (.reg [0,1,3,7,15,15,47,111,255,511,15,2047,4095] (ra 0 13 ([])) [.s [30] [],.s [34] [],z0,z0,.s [30] [],.s [30] [],.s [34] [],z0,.s [34] [],.s [34] [],.s [35] [],z0,z0] (.a)) (.a))) (.a))) (.a))))))))) (.a))))))) (.a))))) (.a))) (.a)))) (.a)))) (.seq (.a) (.join [] (.a))))))))) (.seq (.a) (.seq (.a) (.block (.loop ⟨[(11,.r (.c (.d (.d tI))))],(ra 12 8 (ra 46 116 ([]))),[(14,.box [.d (.d .str),.d (.d .str)])],[]⟩ [(.exit 4,⟨[],(ra 11 9 (ra 46 116 ([]))),[(14,.box [.d (.d .str),.d (.d .str)])],[]⟩)] (.seq (.a) (.seq (.block (.seq (.reg [0,1,3,0,0,16,56,120,0,0,768,1792,0,0,0,28679,61695,131071] (ra 0 18 ([])) (z0::.s [20] []::.s [20] []::za 3 (.s [20] []::.s [20] []::z0::z0::.s [20] []::.s [20] []::.s [] [21]::.s [] [22]::.s [] [23]::.s [21] [21]::.s [22] [22]::.s [23] [23]::[])) (.a)) (.seq (.a) (.seq (.a) (.seq (.reg [0,0,3,0,8,31,0,64,255,0,0,1543,0,4096,15879,0,32768,130567,262143,0,0,1576455,0,4194304,16256519,0,33554432,133697031,268435455,536870911] (ra 0 30 ([])) [z0,.s [21] [],.k [],z0,.s [22] [],z0,z0,.s [23] [],z0,z0,.s [22] [],.k [],z0,.s [21] [],z0,z0,.s [23] [],z0,z0,z0,.s [23] [],.k [],z0,.s [21] [],z0,z0,.s [22] [],z0,z0,z0] (.kp [] ⟨[(118,.r (.c (.d (.d tI))))],[],[],[]⟩ (.seq (.a) (.seq (.a) (.seq (.seq (.a) (.block (.seq (.seq (.a) (.seq (.a) (.seq (.block (.seq (.a) (.reg [0,0,0,4,12,30,0,64,192,448,960,0,2048,6144,14336,30720,0,131070,262142,524287,1048575] (ra 0 21 ([])) [z0,.s [12] [],z0,.s [19] [],.s [19] [],.k [],z0,z0,z0,.s [19] [],.s [19] [],z0,z0,z0,.s [19] [],.s [19] [],.s [24] [],z0,z0,z0,z0] (.kp [] ⟨[(15,.r (.c (.d (.d tI))))],[],[],[]⟩ (.seq (.a) (.a)) (.a))))) (.a)))) (.seq (.seq (.a) (.seq (.a) (.seq (.block (.seq (.a) (.reg [0,0,0,4,12,30,0,64,192,448,960,0,2048,6144,14336,30720,0,131070,262142,524287,1048575] (ra 0 21 ([])) [z0,.s [12] [],z0,.s [19] [],.s [19] [],.k [],z0,z0,z0,.s [19] [],.s [19] [],z0,z0,z0,.s [19] [],.s [19] [],.s [24] [],z0,z0,z0,z0] (.kp [] ⟨[(15,.r (.c (.d (.d tI))))],[],[],[]⟩ (.seq (.a) (.a)) (.a))))) (.a)))) (.seq (.seq (.a) (.seq (.a) (.seq (.block (.seq (.a) (.reg [0,0,0,4,12,30,0,64,192,448,960,0,2048,6144,14336,30720,0,131070,262142,524287,1048575] (ra 0 21 ([])) [z0,.s [12] [],z0,.s [19] [],.s [19] [],.k [],z0,z0,z0,.s [19] [],.s [19] [],z0,z0,z0,.s [19] [],.s [19] [],.s [24] [],z0,z0,z0,z0] (.kp [] ⟨[(15,.r (.c (.d (.d tI))))],[],[],[]⟩ (.seq (.a) (.a)) (.a))))) (.a)))) (.seq (.a) (.join [] (.a)))))))) (.a)))) (.kp [] ⟨[(127,.r (.c (.d (.d tI))))],[],[],[]⟩ (.seq (.a) (.seq (.a) (.seq (.seq (.a) (.block (.seq (.seq (.a) (.seq (.a) (.seq (.block (.seq (.a) (.reg [0,0,0,4,12,30,0,64,192,448,960,0,2048,6144,14336,30720,0,131070,262142,524287,1048575] (ra 0 21 ([])) [z0,.s [12] [],z0,.s [19] [],.s [19] [],.k [],z0,z0,z0,.s [19] [],.s [19] [],z0,z0,z0,.s [19] [],.s [19] [],.s [24] [],z0,z0,z0,z0] (.kp [] ⟨[(15,.r (.c (.d (.d tI))))],[],[],[]⟩ (.seq (.a) (.a)) (.a))))) (.a)))) (.seq (.seq (.a) (.seq (.a) (.seq (.block (.seq (.a) (.reg [0,0,0,4,12,30,0,64,192,448,960,0,2048,6144,14336,30720,0,131070,262142,524287,1048575] (ra 0 21 ([])) [z0,.s [12] [],z0,.s [19] [],.s [19] [],.k [],z0,z0,z0,.s [19] [],.s [19] [],z0,z0,z0,.s [19] [],.s [19] [],.s [24] [],z0,z0,z0,z0] (.kp [] ⟨[(15,.r (.c (.d (.d tI))))],[],[],[]⟩ (.seq (.a) (.a)) (.a))))) (.a)))) (.seq (.seq (.a) (.seq (.a) (.seq (.block (.seq (.a) (.reg [0,0,0,4,12,30,0,64,192,448,960,0,2048,6144,14336,30720,0,131070,262142,524287,1048575] (ra 0 21 ([])) [z0,.s [12] [],z0,.s [19] [],.s [19] [],.k [],z0,z0,z0,.s [19] [],.s [19] [],z0,z0,z0,.s [19] [],.s [19] [],.s [24] [],z0,z0,z0,z0] (.kp [] ⟨[(15,.r (.c (.d (.d tI))))],[],[],[]⟩ (.seq (.a) (.a)) (.a))))) (.a)))) (.seq (.a) (.join [] (.a)))))))) (.a)))) (.kp [] ⟨[(137,.r (.c (.d (.d tI))))],[],[],[]⟩ (.seq (.a) (.seq (.a) (.seq (.seq (.a) (.block (.seq (.seq (.a) (.seq (.a) (.seq (.block (.seq (.a) (.reg [0,0,0,4,12,30,0,64,192,448,960,0,2048,6144,14336,30720,0,131070,262142,524287,1048575] (ra 0 21 ([])) [z0,.s [12] [],z0,.s [19] [],.s [19] [],.k [],z0,z0,z0,.s [19] [],.s [19] [],z0,z0,z0,.s [19] [],.s [19] [],.s [24] [],z0,z0,z0,z0] (.kp [] ⟨[(15,.r (.c (.d (.d tI))))],[],[],[]⟩ (.seq (.a) (.a)) (.a))))) (.a)))) (.seq (.seq (.a) (.seq (.a) (.seq (.block (.seq (.a) (.reg [0,0,0,4,12,30,0,64,192,448,960,0,2048,6144,14336,30720,0,131070,262142,524287,1048575] (ra 0 21 ([])) [z0,.s [12] [],z0,.s [19] [],.s [19] [],.k [],z0,z0,z0,.s [19] [],.s [19] [],z0,z0,z0,.s [19] [],.s [19] [],.s [24] [],z0,z0,z0,z0] (.kp [] ⟨[(15,.r (.c (.d (.d tI))))],[],[],[]⟩ (.seq (.a) (.a)) (.a))))) (.a)))) (.seq (.seq (.a) (.seq (.a) (.seq (.block (.seq (.a) (.reg [0,0,0,4,12,30,0,64,192,448,960,0,2048,6144,14336,30720,0,131070,262142,524287,1048575] (ra 0 21 ([])) [z0,.s [12] [],z0,.s [19] [],.s [19] [],.k [],z0,z0,z0,.s [19] [],.s [19] [],z0,z0,z0,.s [19] [],.s [19] [],.s [24] [],z0,z0,z0,z0] (.kp [] ⟨[(15,.r (.c (.d (.d tI))))],[],[],[]⟩ (.seq (.a) (.a)) (.a))))) (.a)))) (.seq (.a) (.join [] (.a)))))))) (.a)))) (.a))))) (.a)))))) (.a))))))))))) (.gq z0 (.gq (.s [17] []) (.gq (.s [18] []) (.gq z0 (.gq z0 (.gq z0 (.gq z0 (.gq z0 (.gq (.r) (.call [] [] (.seq (.a) (.block (.seq (.a) (.seq (.join [(.norm,⟨[(8,.r (.c (.h 22)))],(9::ra 28 17 ([])),[],[.arr tB]⟩)] (.seq (.a) (.block (.seq (.seq (.a) (.seq (.a) (.seq (.block (.seq (.a) (.seq (.reg [0,0,2,6,0,16,48,112,240,511,1023] (ra 0 11 ([])) [z0,z0,.s [21] [],.s [21] [],z0,z0,z0,.s [21] [],.s [21] [],.r,z0] (.call [] [] (.seq (.a) (.seq (.a) (.seq (.a) (.seq (.seq (.a) (.block (.loop ⟨[(17,.r (.c (.d (.d tI))))],(9::10::11::12::13::ra 18 71 ([])),[(24,.box [.h 25])],[.arr tB]⟩ [(.exit 0,⟨[],(9::10::11::12::13::ra 17 72 ([])),[(24,.box [.h 25])],[.arr tB]⟩)] (.seq (.a) (.seq (.a) (.seq (.join [(.norm,⟨[],(9::10::11::12::13::ra 19 69 ([])),[(24,.box [.h 26]),(25,.gone)],[.arr tB]⟩)] (.block (.seq (.a) (.seq (.a) (.seq (.reg [0,0,0,7,0,0,0,127,255,511] (ra 0 10 ([])) (.s [22] []::.s [23] []::.s [26] []::z0::.s [22] []::.s [23] []::.s [27] []::za 3 ([])) (.a)) (.seq (.join [(.norm,⟨[],[38,39,40,41,42],[(24,.box [.h 28]),(25,.gone)],[.arr tB]⟩)] (.seq (.a) (.cond (.reg [] [] [z0,.s [26] [],.r] (.call [] [(.norm,⟨[(42,.t [])],[],[(24,.box [.h 28]),(25,.gone)],[.arr tB]⟩)] (.seq (.a) (.seq (.reg [0,1,3,7,15,15,47,111,255,511,15,2047,4095] (ra 0 13 ([])) [.s [24] [],.s [25] [],z0,z0,.s [24] [],.s [24] [],.s [25] [],z0,.s [25] [],.s [25] [],.s [28] [],z0,z0] (.a)) (.a))) (.a))) (.a)))) (.seq (.a) (.cond (.reg [] [] [z0,z0,.s [26] [],z0,z0,z0,.s [27] [],z0,z0,z0,z0,.s [26] [],z0,z0,z0,.s [27] [],z0,z0,z0,z0,.s [26] [],z0,z0,z0,.s [27] [],z0,z0,z0,z0,z0,.r] (.call [] [(.norm,⟨[(87,.t [])],[],[(24,.box [.h 29]),(28,.gone)],[.arr tB]⟩)] (.seq (.a) (.seq (.reg [0,1,3,7,15,15,47,111,255,511,15,2047,4095] (ra 0 13 ([])) [.s [24] [],.s [28] [],z0,z0,.s [24] [],.s [24] [],.s [28] [],z0,.s [28] [],.s [28] [],.s [29] [],z0,z0] (.a)) (.a))) (.a))) (.a))))))))) (.a))))))) (.a))))) (.a))) (.a)))) (.a)))) (.seq (.seq (.a) (.seq (.a) (.seq (.block (.seq (.a) (.seq (.reg [0,0,2,6,0,16,48,112,240,511,1023] (ra 0 11 ([])) [z0,z0,.s [21] [],.s [21] [],z0,z0,z0,.s [21] [],.s [21] [],.r,z0] (.call [] [] (.seq (.a) (.seq (.a) (.seq (.a) (.seq (.seq (.a) (.block (.loop ⟨[(17,.r (.c (.d (.d tI))))],(9::10::11::12::13::ra 18 71 ([])),[(28,.box [.h 29])],[.arr tB]⟩ [(.exit 0,⟨[],(9::10::11::12::13::ra 17 72 ([])),[(28,.box [.h 29])],[.arr tB]⟩)] (.seq (.a) (.seq (.a) (.seq (.join [(.norm,⟨[],(9::10::11::12::13::ra 19 69 ([])),[(28,.box [.h 30]),(29,.gone)],[.arr tB]⟩)] (.block (.seq (.a) (.seq (.a) (.seq (.reg [0,0,0,7,0,0,0,127,255,511] (ra 0 10 ([])) (.s [26] []::.s [27] []::.s [30] []::z0::.s [26] []::.s [27] []::.s [31] []::za 3 ([])) (.a)) (.seq (.join [(.norm,⟨[],[38,39,40,41,42],[(28,.box [.h 32]),(29,.gone)],[.arr tB]⟩)] (.seq (.a) (.cond (.reg [] [] [z0,.s [30] [],.r] (.call [] [(.norm,⟨[(42,.t [])],[],[(28,.box [.h 32]),(29,.gone)],[.arr tB]⟩)] (.seq (.a) (.seq (.reg [0,1,3,7,15,15,47,111,255,511,15,2047,4095] (ra 0 13 ([])) [.s [28] [],.s [29] [],z0,z0,.s [28] [],.s [28] [],.s [29] [],z0,.s [29] [],.s [29] [],.s [32] [],z0,z0] (.a)) (.a))) (.a))) (.a)))) (.seq (.a) (.cond (.reg [] [] [z0,z0,.s [30] [],z0,z0,z0,.s [31] [],z0,z0,z0,z0,.s [30] [],z0,z0,z0,.s [31] [],z0,z0,z0,z0,.s [30] [],z0,z0,z0,.s [31] [],z0,z0,z0,z0,z0,.r] (.call [] [(.norm,⟨[(87,.t [])],[],[(28,.box [.h 33]),(32,.gone)],[.arr tB]⟩)] (.seq (.a) (.seq (.reg [0,1,3,7,15,15,47,111,255,511,15,2047,4095] (ra 0 13 ([])) [.s [28] [],.s [32] [],z0,z0,.s [28] [],.s [28] [],.s [32] [],z0,.s [32] [],.s [32] [],.s [33] [],z0,z0] (.a)) (.a))) (.a))) (.a))))))))) (.a))))))) (.a))))) (.a))) (.a)))) (.a)))) (.seq (.seq (.a) (.seq (.a) (.seq (.block (.seq (.a) (.seq (.reg [0,0,2,6,0,16,48,112,240,511,1023] (ra 0 11 ([])) [z0,z0,.s [21] [],.s [21] [],z0,z0,z0,.s [21] [],.s [21] [],.r,z0] (.call [] [] (.seq (.a) (.seq (.a) (.seq (.a) (.seq (.seq (.a) (.block (.loop ⟨[(17,.r (.c (.d (.d tI))))],(9::10::11::12::13::ra 18 71 ([])),[(32,.box [.h 33])],[.arr tB]⟩ [(.exit 0,⟨[],(9::10::11::12::13::ra 17 72 ([])),[(32,.box [.h 33])],[.arr tB]⟩)] (.seq (.a) (.seq (.a) (.seq (.join [(.norm,⟨[],(9::10::11::12::13::ra 19 69 ([])),[(32,.box [.h 34]),(33,.gone)],[.arr tB]⟩)] (.block (.seq (.a) (.seq (.a) (.seq (.reg [0,0,0,7,0,0,0,127,255,511] (ra 0 10 ([])) (.s [30] []::.s [31] []::.s [34] []::z0::.s [30] []::.s [31] []::.s [35] []::za 3 ([])) (.a)) (.seq (.join [(.norm,⟨[],[38,39,40,41,42],[(32,.box [.h 36]),(33,.gone)],[.arr tB]⟩)] (.seq (.a) (.cond (.reg [] [] [z0,.s [34] [],.r] (.call [] [(.norm,⟨[(42,.t [])],[],[(32,.box [.h 36]),(33,.gone)],[.arr tB]⟩)] (.seq (.a) (.seq (.reg [0,1,3,7,15,15,47,111,255,511,15,2047,4095] (ra 0 13 ([])) [.s [32] [],.s [33] [],z0,z0,.s [32] [],.s [32] [],.s [33] [],z0,.s [33] [],.s [33] [],.s [36] [],z0,z0] (.a)) (.a))) (.a))) (.a)))) (.seq (.a) (.cond (.reg [] [] [z0,z0,.s [34] [],z0,z0,z0,.s [35] [],z0,z0,z0,z0,.s [34] [],z0,z0,z0,.s [35] [],z0,z0,z0,z0,.s [34] [],z0,z0,z0,.s [35] [],z0,z0,z0,z0,z0,.r] (.call [] [(.norm,⟨[(87,.t [])],[],[(32,.box [.h 37]),(36,.gone)],[.arr tB]⟩)] (.seq (.a) (.seq (.reg [0,1,3,7,15,15,47,111,255,511,15,2047,4095] (ra 0 13 ([])) [.s [32] [],.s [36] [],z0,z0,.s [32] [],.s [32] [],.s [36] [],z0,.s [36] [],.s [36] [],.s [37] [],z0,z0] (.a)) (.a))) (.a))) (.a))))))))) (.a))))))) (.a))))) (.a))) (.a)))) (.a)))) (.seq (.a) (.join [] (.a))))))))) (.seq (.a) (.seq (.a) (.block (.loop ⟨[(11,.r (.c (.d (.d tI))))],(ra 12 8 (ra 46 116 ([]))),[(14,.box [.d (.d .str),.d (.d .str)])],[]⟩ [(.exit 4,⟨[],(ra 11 9 (ra 46 116 ([]))),[(14,.box [.d (.d .str),.d (.d .str)])],[]⟩)] (.seq (.a) (.seq (.block (.seq (.reg [0,1,3,0,0,16,56,120,0,0,768,1792,0,0,0,28679,61695,131071] (ra 0 18 ([])) (z0::.s [22] []::.s [22] []::za 3 (.s [22] []::.s [22] []::z0::z0::.s [22] []::.s [22] []::.s [] [23]::.s [] [24]::.s [] [25]::.s [23] [23]::.s [24] [24]::.s [25] [25]::[])) (.a)) (.seq (.a) (.seq (.a) (.seq (.reg [0,0,3,0,8,31,0,64,255,0,0,1543,0,4096,15879,0,32768,130567,262143,0,0,1576455,0,4194304,16256519,0,33554432,133697031,268435455,536870911] (ra 0 30 ([])) [z0,.s [23] [],.k [],z0,.s [24] [],z0,z0,.s [25] [],z0,z0,.s [24] [],.k [],z0,.s [23] [],z0,z0,.s [25] [],z0,z0,z0,.s [25] [],.k [],z0,.s [23] [],z0,z0,.s [24] [],z0,z0,z0] (.kp [] ⟨[(118,.r (.c (.d (.d tI))))],[],[],[]⟩ (.seq (.a) (.seq (.a) (.seq (.seq (.a) (.block (.seq (.seq (.a) (.seq (.a) (.seq (.block (.seq (.a) (.reg [0,0,0,4,12,30,0,64,192,448,960,0,2048,6144,14336,30720,0,131070,262142,524287,1048575] (ra 0 21 ([])) [z0,.s [12] [],z0,.s [21] [],.s [21] [],.k [],z0,z0,z0,.s [21] [],.s [21] [],z0,z0,z0,.s [21] [],.s [21] [],.s [26] [],z0,z0,z0,z0] (.kp [] ⟨[(15,.r (.c (.d (.d tI))))],[],[],[]⟩ (.seq (.a) (.a)) (.a))))) (.a)))) (.seq (.seq (.a) (.seq (.a) (.seq (.block (.seq (.a) (.reg [0,0,0,4,12,30,0,64,192,448,960,0,2048,6144,14336,30720,0,131070,262142,524287,1048575] (ra 0 21 ([])) [z0,.s [12] [],z0,.s [21] [],.s [21] [],.k [],z0,z0,z0,.s [21] [],.s [21] [],z0,z0,z0,.s [21] [],.s [21] [],.s [26] [],z0,z0,z0,z0] (.kp [] ⟨[(15,.r (.c (.d (.d tI))))],[],[],[]⟩ (.seq (.a) (.a)) (.a))))) (.a)))) (.seq (.seq (.a) (.seq (.a) (.seq (.block (.seq (.a) (.reg [0,0,0,4,12,30,0,64,192,448,960,0,2048,6144,14336,30720,0,131070,262142,524287,1048575] (ra 0 21 ([])) [z0,.s [12] [],z0,.s [21] [],.s [21] [],.k [],z0,z0,z0,.s [21] [],.s [21] [],z0,z0,z0,.s [21] [],.s [21] [],.s [26] [],z0,z0,z0,z0] (.kp [] ⟨[(15,.r (.c (.d (.d tI))))],[],[],[]⟩ (.seq (.a) (.a)) (.a))))) (.a)))) (.seq (.a) (.join [] (.a)))))))) (.a)))) (.kp [] ⟨[(127,.r (.c (.d (.d tI))))],[],[],[]⟩ (.seq (.a) (.seq (.a) (.seq (.seq (.a) (.block (.seq (.seq (.a) (.seq (.a) (.seq (.block (.seq (.a) (.reg [0,0,0,4,12,30,0,64,192,448,960,0,2048,6144,14336,30720,0,131070,262142,524287,1048575] (ra 0 21 ([])) [z0,.s [12] [],z0,.s [21] [],.s [21] [],.k [],z0,z0,z0,.s [21] [],.s [21] [],z0,z0,z0,.s [21] [],.s [21] [],.s [26] [],z0,z0,z0,z0] (.kp [] ⟨[(15,.r (.c (.d (.d tI))))],[],[],[]⟩ (.seq (.a) (.a)) (.a))))) (.a)))) (.seq (.seq (.a) (.seq (.a) (.seq (.block (.seq (.a) (.reg [0,0,0,4,12,30,0,64,192,448,960,0,2048,6144,14336,30720,0,131070,262142,524287,1048575] (ra 0 21 ([])) [z0,.s [12] [],z0,.s [21] [],.s [21] [],.k [],z0,z0,z0,.s [21] [],.s [21] [],z0,z0,z0,.s [21] [],.s [21] [],.s [26] [],z0,z0,z0,z0] (.kp [] ⟨[(15,.r (.c (.d (.d tI))))],[],[],[]⟩ (.seq (.a) (.a)) (.a))))) (.a)))) (.seq (.seq (.a) (.seq (.a) (.seq (.block (.seq (.a) (.reg [0,0,0,4,12,30,0,64,192,448,960,0,2048,6144,14336,30720,0,131070,262142,524287,1048575] (ra 0 21 ([])) [z0,.s [12] [],z0,.s [21] [],.s [21] [],.k [],z0,z0,z0,.s [21] [],.s [21] [],z0,z0,z0,.s [21] [],.s [21] [],.s [26] [],z0,z0,z0,z0] (.kp [] ⟨[(15,.r (.c (.d (.d tI))))],[],[],[]⟩ (.seq (.a) (.a)) (.a))))) (.a)))) (.seq (.a) (.join [] (.a)))))))) (.a)))) (.kp [] ⟨[(137,.r (.c (.d (.d tI))))],[],[],[]⟩ (.seq (.a) (.seq (.a) (.seq (.seq (.a) (.block (.seq (.seq (.a) (.seq (.a) (.seq (.block (.seq (.a) (.reg [0,0,0,4,12,30,0,64,192,448,960,0,2048,6144,14336,30720,0,131070,262142,524287,1048575] (ra 0 21 ([])) [z0,.s [12] [],z0,.s [21] [],.s [21] [],.k [],z0,z0,z0,.s [21] [],.s [21] [],z0,z0,z0,.s [21] [],.s [21] [],.s [26] [],z0,z0,z0,z0] (.kp [] ⟨[(15,.r (.c (.d (.d tI))))],[],[],[]⟩ (.seq (.a) (.a)) (.a))))) (.a)))) (.seq (.seq (.a) (.seq (.a) (.seq (.block (.seq (.a) (.reg [0,0,0,4,12,30,0,64,192,448,960,0,2048,6144,14336,30720,0,131070,262142,524287,1048575] (ra 0 21 ([])) [z0,.s [12] [],z0,.s [21] [],.s [21] [],.k [],z0,z0,z0,.s [21] [],.s [21] [],z0,z0,z0,.s [21] [],.s [21] [],.s [26] [],z0,z0,z0,z0] (.kp [] ⟨[(15,.r (.c (.d (.d tI))))],[],[],[]⟩ (.seq (.a) (.a)) (.a))))) (.a)))) (.seq (.seq (.a) (.seq (.a) (.seq (.block (.seq (.a) (.reg [0,0,0,4,12,30,0,64,192,448,960,0,2048,6144,14336,30720,0,131070,262142,524287,1048575] (ra 0 21 ([])) [z0,.s [12] [],z0,.s [21] [],.s [21] [],.k [],z0,z0,z0,.s [21] [],.s [21] [],z0,z0,z0,.s [21] [],.s [21] [],.s [26] [],z0,z0,z0,z0] (.kp [] ⟨[(15,.r (.c (.d (.d tI))))],[],[],[]⟩ (.seq (.a) (.a)) (.a))))) (.a)))) (.seq (.a) (.join [] (.a)))))))) (.a)))) (.a))))) (.a)))))) (.a))))))))))) (.gq z0 (.a) (.a))) (.a)) (.a)) (.a)) (.a)) (.a)) (.a)) (.a)) (.a)) (.a)))) (.a))))) (.a))))))))) (.a))))))) (.a)))) (.a)))) (.a)))))) (.a))) (.a))) (.seq (.reg [0,0,1,7,15] [0,1,2,3,4] [.s [12] [],.s [13] [],.s [1] [1],.s [2] [2],z0] (.a)) (.a)))))))
def m33:((Int×Int×List Int×List Int)×List (Int×Int))→Option ((List UInt8×List UInt8)×(List UInt8×List UInt8)×Int) :=
 fun x=>(m17 (x.1.1,x.1.2.1,x.1.2.2.1,x.1.2.2.2)).bind fun r=>(bif PE.notM (PE.notM r) then m45 x.2 else some false).bind fun r_1=>(bif PE.notM (PE.orM
 (PE.notM r) (PE.notM r_1)) then ((loopM (fun (s:Int)=>bif ltM s (lenM x.2) then (idxM x.2 s).bind fun r=>bif PE.orM (ltM x.1.1 r.1) (ltM x.1.2.1 r.2)
 then some (Sum.inr (Sum.inr s)) else some (Sum.inl (wrap IntKind.i64 (s+1))) else some (Sum.inr (Sum.inl ()))) 0).bind fun o=>Sum.elim (fun (t:Unit) =>
 some (-1)) (fun (t:Int)=>some t) o).bind fun (ov:Int)=>some (leM 0 ov) else some false).bind fun (ov:Bool)=>bif PE.orM (PE.orM (PE.notM r)
 (PE.notM r_1)) ov then some (([],[]),([],[]),250) else (loopM (fun (s:Int×List (Int×Int×Int))=>bif ltM s.1 (lenM x.2) then (idxM x.2 s.1).bind
 fun r_2=>(appM (nat_lit 24) s.2 [(r_2.1,r_2.2,1)]).bind fun r=>some (Sum.inl (wrap IntKind.i64 (s.1+1),r)) else some (Sum.inr s.2)) (0,[])).bind fun
 o=>((m42 (0,1)).bind fun r_2=>(loopM (fun (s:Int×List UInt8×List UInt8)=>bif ltM s.1 x.1.2.1 then (loopM (fun (s_1:Int×List UInt8×List
 UInt8)=>bif ltM s_1.1 x.1.1 then ((loopM (fun (s_2:Int×List (Int×Int×Int))=>bif ltM s_2.1 (lenM o) then ((chkM s_2.1 (lenM o)).bind fun r_3 =>
 (idxM o s_2.1).bind fun r_4=>(remM (wrap IntKind.i64 (s_2.1+1)) (lenM o)).bind fun r_5=>(chkM r_5 (lenM o)).bind fun r_6=>(idxM o r_5).bind fun r_7 =>
 (m66 ((s_1.1,s.1),(wrap IntKind.i64 (s_1.1+1),s.1),r_4.1,r_4.2.1,r_4.2.2)).bind fun r_8=>(m66 ((s_1.1,s.1),(wrap IntKind.i64 (s_1.1+1),s.1),
 r_7.1,r_7.2.1,r_7.2.2)).bind fun r_9=>(bif leM 0 r_8 then ((bif PE.notM (eqM (lenM s_2.2) 0) then chkM (wrap IntKind.i64 (lenM s_2.2-1)) (lenM s_2.2)
 else some ()).bind fun r_10=>(bif PE.notM (eqM (lenM s_2.2) 0) then idxM s_2.2 (wrap IntKind.i64 (lenM s_2.2-1)) else some (0,0,0)).bind fun r_11=>bif
 PE.orM (eqM (lenM s_2.2) 0) (PE.notM (PE.andM (eqM r_11.1 r_4.1) (PE.andM (eqM r_11.2.1 r_4.2.1) (eqM r_11.2.2 r_4.2.2)))) then (appM (nat_lit 24) s_2.2
 [(r_4.1,r_4.2.1,r_4.2.2)]).bind fun r=>some r else some s_2.2).bind fun (ov:List (Int×Int×Int))=>some ov else some s_2.2).bind fun o_1=>bif
 PE.orM (PE.andM (ltM 0 r_8) (ltM r_9 0)) (PE.andM (ltM r_8 0) (ltM 0 r_9)) then (m94 (wrap IntKind.i64 (wrap IntKind.i64 (r_4.1*r_9)-wrap IntKind.i64
 (r_7.1*r_8)),wrap IntKind.i64 (wrap IntKind.i64 (r_4.2.1*r_9)-wrap IntKind.i64 (r_7.2.1*r_8)),wrap IntKind.i64 (wrap IntKind.i64 (r_4.2.2*r_9) -
 wrap IntKind.i64 (r_7.2.2*r_8)))).bind fun r_10=>((bif PE.notM (eqM (lenM o_1) 0) then chkM (wrap IntKind.i64 (lenM o_1-1)) (lenM o_1) else some
 ()).bind fun r_11=>(bif PE.notM (eqM (lenM o_1) 0) then idxM o_1 (wrap IntKind.i64 (lenM o_1-1)) else some (0,0,0)).bind fun r_12=>bif PE.orM (eqM
 (lenM o_1) 0) (PE.notM (PE.andM (eqM r_12.1 r_10.1) (PE.andM (eqM r_12.2.1 r_10.2.1) (eqM r_12.2.2 r_10.2.2)))) then (appM (nat_lit 24) o_1 [(r_10.1,
 r_10.2.1,r_10.2.2)]).bind fun r=>some r else some o_1).bind fun (ov:List (Int×Int×Int))=>some ov else some o_1).bind fun o=>some (Sum.inl (wrap
 IntKind.i64 (s_2.1+1),o)) else some (Sum.inr s_2.2)) (0,[])).bind fun o_1=>bif eqM (lenM o_1) 0 then some o_1 else (loopM (fun (s_2:Int×List (Int ×
 Int×Int))=>bif ltM s_2.1 (lenM o_1) then ((chkM s_2.1 (lenM o_1)).bind fun r_3=>(idxM o_1 s_2.1).bind fun r_4=>(remM (wrap IntKind.i64 (s_2.1+1))
 (lenM o_1)).bind fun r_5=>(chkM r_5 (lenM o_1)).bind fun r_6=>(idxM o_1 r_5).bind fun r_7=>(m66 ((wrap IntKind.i64 (s_1.1+1),s.1),(wrap IntKind.i64
 (s_1.1+1),wrap IntKind.i64 (s.1+1)),r_4.1,r_4.2.1,r_4.2.2)).bind fun r_8=>(m66 ((wrap IntKind.i64 (s_1.1+1),s.1),(wrap IntKind.i64 (s_1.1+1),
 wrap IntKind.i64 (s.1+1)),r_7.1,r_7.2.1,r_7.2.2)).bind fun r_9=>(bif leM 0 r_8 then ((bif PE.notM (eqM (lenM s_2.2) 0) then chkM (wrap IntKind.i64
 (lenM s_2.2-1)) (lenM s_2.2) else some ()).bind fun r_10=>(bif PE.notM (eqM (lenM s_2.2) 0) then idxM s_2.2 (wrap IntKind.i64 (lenM s_2.2-1)) else some
 (0,0,0)).bind fun r_11=>bif PE.orM (eqM (lenM s_2.2) 0) (PE.notM (PE.andM (eqM r_11.1 r_4.1) (PE.andM (eqM r_11.2.1 r_4.2.1) (eqM r_11.2.2 r_4.2.2))))
 then (appM (nat_lit 24) s_2.2 [(r_4.1,r_4.2.1,r_4.2.2)]).bind fun r=>some r else some s_2.2).bind fun (ov:List (Int×Int×Int))=>some ov else some
 s_2.2).bind fun o_2=>bif PE.orM (PE.andM (ltM 0 r_8) (ltM r_9 0)) (PE.andM (ltM r_8 0) (ltM 0 r_9)) then (m94 (wrap IntKind.i64 (wrap IntKind.i64 (r_4.1 *
 r_9)-wrap IntKind.i64 (r_7.1*r_8)),wrap IntKind.i64 (wrap IntKind.i64 (r_4.2.1*r_9)-wrap IntKind.i64 (r_7.2.1*r_8)),wrap IntKind.i64 (wrap
 IntKind.i64 (r_4.2.2*r_9)-wrap IntKind.i64 (r_7.2.2*r_8)))).bind fun r_10=>((bif PE.notM (eqM (lenM o_2) 0) then chkM (wrap IntKind.i64 (lenM o_2 -
 1)) (lenM o_2) else some ()).bind fun r_11=>(bif PE.notM (eqM (lenM o_2) 0) then idxM o_2 (wrap IntKind.i64 (lenM o_2-1)) else some (0,0,0)).bind fun
 r_12=>bif PE.orM (eqM (lenM o_2) 0) (PE.notM (PE.andM (eqM r_12.1 r_10.1) (PE.andM (eqM r_12.2.1 r_10.2.1) (eqM r_12.2.2 r_10.2.2)))) then (appM (nat_lit
 24) o_2 [(r_10.1,r_10.2.1,r_10.2.2)]).bind fun r=>some r else some o_2).bind fun (ov:List (Int×Int×Int))=>some ov else some o_2).bind fun o =>
 some (Sum.inl (wrap IntKind.i64 (s_2.1+1),o)) else some (Sum.inr s_2.2)) (0,[])).bind fun o_2=>bif eqM (lenM o_2) 0 then some o_2 else (loopM (fun (s_2
 : Int×List (Int×Int×Int))=>bif ltM s_2.1 (lenM o_2) then ((chkM s_2.1 (lenM o_2)).bind fun r_3=>(idxM o_2 s_2.1).bind fun r_4=>(remM (wrap
 IntKind.i64 (s_2.1+1)) (lenM o_2)).bind fun r_5=>(chkM r_5 (lenM o_2)).bind fun r_6=>(idxM o_2 r_5).bind fun r_7=>(m66 ((wrap IntKind.i64 (s_1.1+1),
 wrap IntKind.i64 (s.1+1)),(s_1.1,s.1),r_4.1,r_4.2.1,r_4.2.2)).bind fun r_8=>(m66 ((wrap IntKind.i64 (s_1.1+1),wrap IntKind.i64 (s.1+1)),(s_1.1,
 s.1),r_7.1,r_7.2.1,r_7.2.2)).bind fun r_9=>(bif leM 0 r_8 then ((bif PE.notM (eqM (lenM s_2.2) 0) then chkM (wrap IntKind.i64 (lenM s_2.2-1)) (lenM
 s_2.2) else some ()).bind fun r_10=>(bif PE.notM (eqM (lenM s_2.2) 0) then idxM s_2.2 (wrap IntKind.i64 (lenM s_2.2-1)) else some (0,0,0)).bind fun r_11
 => bif PE.orM (eqM (lenM s_2.2) 0) (PE.notM (PE.andM (eqM r_11.1 r_4.1) (PE.andM (eqM r_11.2.1 r_4.2.1) (eqM r_11.2.2 r_4.2.2)))) then (appM (nat_lit 24)
 s_2.2 [(r_4.1,r_4.2.1,r_4.2.2)]).bind fun r=>some r else some s_2.2).bind fun (ov:List (Int×Int×Int))=>some ov else some s_2.2).bind fun o_3 =>
 bif PE.orM (PE.andM (ltM 0 r_8) (ltM r_9 0)) (PE.andM (ltM r_8 0) (ltM 0 r_9)) then (m94 (wrap IntKind.i64 (wrap IntKind.i64 (r_4.1*r_9)-wrap IntKind.i64
 (r_7.1*r_8)),wrap IntKind.i64 (wrap IntKind.i64 (r_4.2.1*r_9)-wrap IntKind.i64 (r_7.2.1*r_8)),wrap IntKind.i64 (wrap IntKind.i64 (r_4.2.2*r_9) -
 wrap IntKind.i64 (r_7.2.2*r_8)))).bind fun r_10=>((bif PE.notM (eqM (lenM o_3) 0) then chkM (wrap IntKind.i64 (lenM o_3-1)) (lenM o_3) else some
 ()).bind fun r_11=>(bif PE.notM (eqM (lenM o_3) 0) then idxM o_3 (wrap IntKind.i64 (lenM o_3-1)) else some (0,0,0)).bind fun r_12=>bif PE.orM (eqM
 (lenM o_3) 0) (PE.notM (PE.andM (eqM r_12.1 r_10.1) (PE.andM (eqM r_12.2.1 r_10.2.1) (eqM r_12.2.2 r_10.2.2)))) then (appM (nat_lit 24) o_3 [(r_10.1,
 r_10.2.1,r_10.2.2)]).bind fun r=>some r else some o_3).bind fun (ov:List (Int×Int×Int))=>some ov else some o_3).bind fun o=>some (Sum.inl (wrap
 IntKind.i64 (s_2.1+1),o)) else some (Sum.inr s_2.2)) (0,[])).bind fun o=>bif eqM (lenM o) 0 then some o else some o).bind fun o_1=>(loopM (fun (s_2 :
 Int×List UInt8×List UInt8)=>bif ltM s_2.1 (lenM o_1) then (chkM 0 (lenM o_1)).bind fun r_3=>(idxM o_1 0).bind fun r_4=>(chkM (wrap IntKind.i64
 (s_2.1-1)) (lenM o_1)).bind fun r_5=>(idxM o_1 (wrap IntKind.i64 (s_2.1-1))).bind fun r_6=>(chkM s_2.1 (lenM o_1)).bind fun r_7=>(idxM o_1
 s_2.1).bind fun r_8=>(((idxM x.1.2.2.1 (wrap IntKind.i64 (wrap IntKind.i64 (s.1*wrap IntKind.i64 (x.1.1+1))+s_1.1))).bind fun r=>some r).bind fun
 (ov_1:Int)=>(m66 ((wrap IntKind.i64 (s_1.1+1),s.1),(wrap IntKind.i64 (s_1.1+1),wrap IntKind.i64 (s.1+1)),r_4.1,r_4.2.1,r_4.2.2)).bind fun r_9
 => ((idxM x.1.2.2.1 (wrap IntKind.i64 (wrap IntKind.i64 (s.1*wrap IntKind.i64 (x.1.1+1))+wrap IntKind.i64 (s_1.1+1)))).bind fun r=>some r).bind fun
 (ov_2:Int)=>(m66 ((wrap IntKind.i64 (s_1.1+1),wrap IntKind.i64 (s.1+1)),(s_1.1,s.1),r_4.1,r_4.2.1,r_4.2.2)).bind fun r_10=>((idxM x.1.2.2.1
 (wrap IntKind.i64 (wrap IntKind.i64 (wrap IntKind.i64 (s.1+1)*wrap IntKind.i64 (x.1.1+1))+wrap IntKind.i64 (s_1.1+1)))).bind fun r=>some r).bind
 fun (ov_3:Int)=>(m66 ((s_1.1,s.1),(wrap IntKind.i64 (s_1.1+1),s.1),r_4.1,r_4.2.1,r_4.2.2)).bind fun r=>some (wrap IntKind.i64 (wrap IntKind.i64
 (wrap IntKind.i64 (0+wrap IntKind.i64 (ov_1*r_9))+wrap IntKind.i64 (ov_2*r_10))+wrap IntKind.i64 (ov_3*r)))).bind fun (ov_1:Int)=>(((idxM
 x.1.2.2.1 (wrap IntKind.i64 (wrap IntKind.i64 (s.1*wrap IntKind.i64 (x.1.1+1))+s_1.1))).bind fun r=>some r).bind fun (ov_2:Int)=>(m66 ((wrap
 IntKind.i64 (s_1.1+1),s.1),(wrap IntKind.i64 (s_1.1+1),wrap IntKind.i64 (s.1+1)),r_6.1,r_6.2.1,r_6.2.2)).bind fun r_9=>((idxM x.1.2.2.1 (wrap
 IntKind.i64 (wrap IntKind.i64 (s.1*wrap IntKind.i64 (x.1.1+1))+wrap IntKind.i64 (s_1.1+1)))).bind fun r=>some r).bind fun (ov_3:Int)=>(m66
 ((wrap IntKind.i64 (s_1.1+1),wrap IntKind.i64 (s.1+1)),(s_1.1,s.1),r_6.1,r_6.2.1,r_6.2.2)).bind fun r_10=>((idxM x.1.2.2.1 (wrap IntKind.i64 (wrap
 IntKind.i64 (wrap IntKind.i64 (s.1+1)*wrap IntKind.i64 (x.1.1+1))+wrap IntKind.i64 (s_1.1+1)))).bind fun r=>some r).bind fun (ov_4:Int)=>(m66
 ((s_1.1,s.1),(wrap IntKind.i64 (s_1.1+1),s.1),r_6.1,r_6.2.1,r_6.2.2)).bind fun r=>some (wrap IntKind.i64 (wrap IntKind.i64 (wrap IntKind.i64 (0 +
 wrap IntKind.i64 (ov_2*r_9))+wrap IntKind.i64 (ov_3*r_10))+wrap IntKind.i64 (ov_4*r)))).bind fun (ov_2:Int)=>(((idxM x.1.2.2.1 (wrap IntKind.i64
 (wrap IntKind.i64 (s.1*wrap IntKind.i64 (x.1.1+1))+s_1.1))).bind fun r=>some r).bind fun (ov_3:Int)=>(m66 ((wrap IntKind.i64 (s_1.1+1),s.1),
 (wrap IntKind.i64 (s_1.1+1),wrap IntKind.i64 (s.1+1)),r_8.1,r_8.2.1,r_8.2.2)).bind fun r_9=>((idxM x.1.2.2.1 (wrap IntKind.i64 (wrap IntKind.i64
 (s.1*wrap IntKind.i64 (x.1.1+1))+wrap IntKind.i64 (s_1.1+1)))).bind fun r=>some r).bind fun (ov_4:Int)=>(m66 ((wrap IntKind.i64 (s_1.1+1),
 wrap IntKind.i64 (s.1+1)),(s_1.1,s.1),r_8.1,r_8.2.1,r_8.2.2)).bind fun r_10=>((idxM x.1.2.2.1 (wrap IntKind.i64 (wrap IntKind.i64 (wrap IntKind.i64
 (s.1+1)*wrap IntKind.i64 (x.1.1+1))+wrap IntKind.i64 (s_1.1+1)))).bind fun r=>some r).bind fun (ov_5:Int)=>(m66 ((s_1.1,s.1),(wrap
 IntKind.i64 (s_1.1+1),s.1),r_8.1,r_8.2.1,r_8.2.2)).bind fun r=>some (wrap IntKind.i64 (wrap IntKind.i64 (wrap IntKind.i64 (0+wrap IntKind.i64 (ov_3
 * r_9))+wrap IntKind.i64 (ov_4*r_10))+wrap IntKind.i64 (ov_5*r)))).bind fun (ov_3:Int)=>(m42 (wrap IntKind.i64 (wrap IntKind.i64 (wrap IntKind.i64
 (wrap IntKind.i64 (r_4.1*wrap IntKind.i64 (wrap IntKind.i64 (r_6.2.1*r_8.2.2)-wrap IntKind.i64 (r_6.2.2*r_8.2.1)))-wrap IntKind.i64 (r_4.2.1*wrap
 IntKind.i64 (wrap IntKind.i64 (r_6.1*r_8.2.2)-wrap IntKind.i64 (r_6.2.2*r_8.1))))+wrap IntKind.i64 (r_4.2.2*wrap IntKind.i64 (wrap IntKind.i64
 (r_6.1*r_8.2.1)-wrap IntKind.i64 (r_6.2.1*r_8.1))))*wrap IntKind.i64 (wrap IntKind.i64 (wrap IntKind.i64 (wrap IntKind.i64 (ov_1*r_6.2.2)*r_8.2.2)
 + wrap IntKind.i64 (wrap IntKind.i64 (ov_2*r_4.2.2)*r_8.2.2))+wrap IntKind.i64 (wrap IntKind.i64 (ov_3*r_4.2.2)*r_6.2.2))),wrap IntKind.i64 (wrap
 IntKind.i64 (6*wrap IntKind.i64 (wrap IntKind.i64 (r_4.2.2*r_6.2.2)*r_8.2.2))*wrap IntKind.i64 (wrap IntKind.i64 (r_4.2.2*r_6.2.2) *
 r_8.2.2)))).bind fun r_9=>(m67 ((s_2.2.1,s_2.2.2),r_9.1.1,r_9.1.2)).bind fun r=>some (Sum.inl (wrap IntKind.i64 (s_2.1+1),r.1.1,r.1.2)) else some
 (Sum.inr (s_2.2.1,s_2.2.2))) (2,s_1.2.1,s_1.2.2)).bind fun o_2=>((loopM (fun (s_2:Int×List (Int×Int×Int))=>bif ltM s_2.1 (lenM o) then ((chkM
 s_2.1 (lenM o)).bind fun r_3=>(idxM o s_2.1).bind fun r_4=>(remM (wrap IntKind.i64 (s_2.1+1)) (lenM o)).bind fun r_5=>(chkM r_5 (lenM o)).bind fun r_6
 => (idxM o r_5).bind fun r_7=>(m66 ((s_1.1,s.1),(wrap IntKind.i64 (s_1.1+1),wrap IntKind.i64 (s.1+1)),r_4.1,r_4.2.1,r_4.2.2)).bind fun r_8=>(m66
 ((s_1.1,s.1),(wrap IntKind.i64 (s_1.1+1),wrap IntKind.i64 (s.1+1)),r_7.1,r_7.2.1,r_7.2.2)).bind fun r_9=>(bif leM 0 r_8 then ((bif PE.notM (eqM
 (lenM s_2.2) 0) then chkM (wrap IntKind.i64 (lenM s_2.2-1)) (lenM s_2.2) else some ()).bind fun r_10=>(bif PE.notM (eqM (lenM s_2.2) 0) then idxM s_2.2
 (wrap IntKind.i64 (lenM s_2.2-1)) else some (0,0,0)).bind fun r_11=>bif PE.orM (eqM (lenM s_2.2) 0) (PE.notM (PE.andM (eqM r_11.1 r_4.1) (PE.andM (eqM
 r_11.2.1 r_4.2.1) (eqM r_11.2.2 r_4.2.2)))) then (appM (nat_lit 24) s_2.2 [(r_4.1,r_4.2.1,r_4.2.2)]).bind fun r=>some r else some s_2.2).bind fun (ov :
 List (Int×Int×Int))=>some ov else some s_2.2).bind fun o_3=>bif PE.orM (PE.andM (ltM 0 r_8) (ltM r_9 0)) (PE.andM (ltM r_8 0) (ltM 0 r_9)) then (m94
 (wrap IntKind.i64 (wrap IntKind.i64 (r_4.1*r_9)-wrap IntKind.i64 (r_7.1*r_8)),wrap IntKind.i64 (wrap IntKind.i64 (r_4.2.1*r_9)-wrap IntKind.i64
 (r_7.2.1*r_8)),wrap IntKind.i64 (wrap IntKind.i64 (r_4.2.2*r_9)-wrap IntKind.i64 (r_7.2.2*r_8)))).bind fun r_10=>((bif PE.notM (eqM (lenM o_3) 0)
 then chkM (wrap IntKind.i64 (lenM o_3-1)) (lenM o_3) else some ()).bind fun r_11=>(bif PE.notM (eqM (lenM o_3) 0) then idxM o_3 (wrap IntKind.i64 (lenM
 o_3-1)) else some (0,0,0)).bind fun r_12=>bif PE.orM (eqM (lenM o_3) 0) (PE.notM (PE.andM (eqM r_12.1 r_10.1) (PE.andM (eqM r_12.2.1 r_10.2.1) (eqM
 r_12.2.2 r_10.2.2)))) then (appM (nat_lit 24) o_3 [(r_10.1,r_10.2.1,r_10.2.2)]).bind fun r=>some r else some o_3).bind fun (ov:List (Int×Int×Int))
 => some ov else some o_3).bind fun o=>some (Sum.inl (wrap IntKind.i64 (s_2.1+1),o)) else some (Sum.inr s_2.2)) (0,[])).bind fun o_3=>bif eqM (lenM
 o_3) 0 then some o_3 else (loopM (fun (s_2:Int×List (Int×Int×Int))=>bif ltM s_2.1 (lenM o_3) then ((chkM s_2.1 (lenM o_3)).bind fun r_3=>(idxM o_3
 s_2.1).bind fun r_4=>(remM (wrap IntKind.i64 (s_2.1+1)) (lenM o_3)).bind fun r_5=>(chkM r_5 (lenM o_3)).bind fun r_6=>(idxM o_3 r_5).bind fun r_7 =>
 (m66 ((wrap IntKind.i64 (s_1.1+1),wrap IntKind.i64 (s.1+1)),(s_1.1,wrap IntKind.i64 (s.1+1)),r_4.1,r_4.2.1,r_4.2.2)).bind fun r_8=>(m66 ((wrap
 IntKind.i64 (s_1.1+1),wrap IntKind.i64 (s.1+1)),(s_1.1,wrap IntKind.i64 (s.1+1)),r_7.1,r_7.2.1,r_7.2.2)).bind fun r_9=>(bif leM 0 r_8 then ((bif
 PE.notM (eqM (lenM s_2.2) 0) then chkM (wrap IntKind.i64 (lenM s_2.2-1)) (lenM s_2.2) else some ()).bind fun r_10=>(bif PE.notM (eqM (lenM s_2.2) 0) then
 idxM s_2.2 (wrap IntKind.i64 (lenM s_2.2-1)) else some (0,0,0)).bind fun r_11=>bif PE.orM (eqM (lenM s_2.2) 0) (PE.notM (PE.andM (eqM r_11.1 r_4.1)
 (PE.andM (eqM r_11.2.1 r_4.2.1) (eqM r_11.2.2 r_4.2.2)))) then (appM (nat_lit 24) s_2.2 [(r_4.1,r_4.2.1,r_4.2.2)]).bind fun r=>some r else some
 s_2.2).bind fun (ov:List (Int×Int×Int))=>some ov else some s_2.2).bind fun o_4=>bif PE.orM (PE.andM (ltM 0 r_8) (ltM r_9 0)) (PE.andM (ltM r_8 0)
 (ltM 0 r_9)) then (m94 (wrap IntKind.i64 (wrap IntKind.i64 (r_4.1*r_9)-wrap IntKind.i64 (r_7.1*r_8)),wrap IntKind.i64 (wrap IntKind.i64 (r_4.2.1*r_9)
 - wrap IntKind.i64 (r_7.2.1*r_8)),wrap IntKind.i64 (wrap IntKind.i64 (r_4.2.2*r_9)-wrap IntKind.i64 (r_7.2.2*r_8)))).bind fun r_10=>((bif PE.notM
 (eqM (lenM o_4) 0) then chkM (wrap IntKind.i64 (lenM o_4-1)) (lenM o_4) else some ()).bind fun r_11=>(bif PE.notM (eqM (lenM o_4) 0) then idxM o_4 (wrap
 IntKind.i64 (lenM o_4-1)) else some (0,0,0)).bind fun r_12=>bif PE.orM (eqM (lenM o_4) 0) (PE.notM (PE.andM (eqM r_12.1 r_10.1) (PE.andM (eqM r_12.2.1
 r_10.2.1) (eqM r_12.2.2 r_10.2.2)))) then (appM (nat_lit 24) o_4 [(r_10.1,r_10.2.1,r_10.2.2)]).bind fun r=>some r else some o_4).bind fun (ov:List (Int
 × Int×Int))=>some ov else some o_4).bind fun o=>some (Sum.inl (wrap IntKind.i64 (s_2.1+1),o)) else some (Sum.inr s_2.2)) (0,[])).bind fun o_4=>bif
 eqM (lenM o_4) 0 then some o_4 else (loopM (fun (s_2:Int×List (Int×Int×Int))=>bif ltM s_2.1 (lenM o_4) then ((chkM s_2.1 (lenM o_4)).bind fun r_3 =>
 (idxM o_4 s_2.1).bind fun r_4=>(remM (wrap IntKind.i64 (s_2.1+1)) (lenM o_4)).bind fun r_5=>(chkM r_5 (lenM o_4)).bind fun r_6=>(idxM o_4 r_5).bind
 fun r_7=>(m66 ((s_1.1,wrap IntKind.i64 (s.1+1)),(s_1.1,s.1),r_4.1,r_4.2.1,r_4.2.2)).bind fun r_8=>(m66 ((s_1.1,wrap IntKind.i64 (s.1+1)),
 (s_1.1,s.1),r_7.1,r_7.2.1,r_7.2.2)).bind fun r_9=>(bif leM 0 r_8 then ((bif PE.notM (eqM (lenM s_2.2) 0) then chkM (wrap IntKind.i64 (lenM s_2.2-1))
 (lenM s_2.2) else some ()).bind fun r_10=>(bif PE.notM (eqM (lenM s_2.2) 0) then idxM s_2.2 (wrap IntKind.i64 (lenM s_2.2-1)) else some (0,0,0)).bind
 fun r_11=>bif PE.orM (eqM (lenM s_2.2) 0) (PE.notM (PE.andM (eqM r_11.1 r_4.1) (PE.andM (eqM r_11.2.1 r_4.2.1) (eqM r_11.2.2 r_4.2.2)))) then (appM (nat_lit
 24) s_2.2 [(r_4.1,r_4.2.1,r_4.2.2)]).bind fun r=>some r else some s_2.2).bind fun (ov:List (Int×Int×Int))=>some ov else some s_2.2).bind fun o_5
 => bif PE.orM (PE.andM (ltM 0 r_8) (ltM r_9 0)) (PE.andM (ltM r_8 0) (ltM 0 r_9)) then (m94 (wrap IntKind.i64 (wrap IntKind.i64 (r_4.1*r_9)-wrap
 IntKind.i64 (r_7.1*r_8)),wrap IntKind.i64 (wrap IntKind.i64 (r_4.2.1*r_9)-wrap IntKind.i64 (r_7.2.1*r_8)),wrap IntKind.i64 (wrap IntKind.i64
 (r_4.2.2*r_9)-wrap IntKind.i64 (r_7.2.2*r_8)))).bind fun r_10=>((bif PE.notM (eqM (lenM o_5) 0) then chkM (wrap IntKind.i64 (lenM o_5-1)) (lenM o_5)
 else some ()).bind fun r_11=>(bif PE.notM (eqM (lenM o_5) 0) then idxM o_5 (wrap IntKind.i64 (lenM o_5-1)) else some (0,0,0)).bind fun r_12=>bif
 PE.orM (eqM (lenM o_5) 0) (PE.notM (PE.andM (eqM r_12.1 r_10.1) (PE.andM (eqM r_12.2.1 r_10.2.1) (eqM r_12.2.2 r_10.2.2)))) then (appM (nat_lit 24) o_5
 [(r_10.1,r_10.2.1,r_10.2.2)]).bind fun r=>some r else some o_5).bind fun (ov:List (Int×Int×Int))=>some ov else some o_5).bind fun o=>some
 (Sum.inl (wrap IntKind.i64 (s_2.1+1),o)) else some (Sum.inr s_2.2)) (0,[])).bind fun o=>bif eqM (lenM o) 0 then some o else some o).bind fun o_3 =>
 (loopM (fun (s_2:Int×List UInt8×List UInt8)=>bif ltM s_2.1 (lenM o_3) then (chkM 0 (lenM o_3)).bind fun r_3=>(idxM o_3 0).bind fun r_4=>(chkM
 (wrap IntKind.i64 (s_2.1-1)) (lenM o_3)).bind fun r_5=>(idxM o_3 (wrap IntKind.i64 (s_2.1-1))).bind fun r_6=>(chkM s_2.1 (lenM o_3)).bind fun r_7 =>
 (idxM o_3 s_2.1).bind fun r_8=>(((idxM x.1.2.2.1 (wrap IntKind.i64 (wrap IntKind.i64 (s.1*wrap IntKind.i64 (x.1.1+1))+s_1.1))).bind fun r=>some
 r).bind fun (ov_1:Int)=>(m66 ((wrap IntKind.i64 (s_1.1+1),wrap IntKind.i64 (s.1+1)),(s_1.1,wrap IntKind.i64 (s.1+1)),r_4.1,r_4.2.1,
 r_4.2.2)).bind fun r_9=>((idxM x.1.2.2.1 (wrap IntKind.i64 (wrap IntKind.i64 (wrap IntKind.i64 (s.1+1)*wrap IntKind.i64 (x.1.1+1))+wrap IntKind.i64
 (s_1.1+1)))).bind fun r=>some r).bind fun (ov_2:Int)=>(m66 ((s_1.1,wrap IntKind.i64 (s.1+1)),(s_1.1,s.1),r_4.1,r_4.2.1,r_4.2.2)).bind fun r_10
 => ((idxM x.1.2.2.1 (wrap IntKind.i64 (wrap IntKind.i64 (wrap IntKind.i64 (s.1+1)*wrap IntKind.i64 (x.1.1+1))+s_1.1))).bind fun r=>some r).bind fun
 (ov_3:Int)=>(m66 ((s_1.1,s.1),(wrap IntKind.i64 (s_1.1+1),wrap IntKind.i64 (s.1+1)),r_4.1,r_4.2.1,r_4.2.2)).bind fun r=>some (wrap IntKind.i64
 (wrap IntKind.i64 (wrap IntKind.i64 (0+wrap IntKind.i64 (ov_1*r_9))+wrap IntKind.i64 (ov_2*r_10))+wrap IntKind.i64 (ov_3*r)))).bind fun (ov_1 :
 Int)=>(((idxM x.1.2.2.1 (wrap IntKind.i64 (wrap IntKind.i64 (s.1*wrap IntKind.i64 (x.1.1+1))+s_1.1))).bind fun r=>some r).bind fun (ov_2:Int) =>
 (m66 ((wrap IntKind.i64 (s_1.1+1),wrap IntKind.i64 (s.1+1)),(s_1.1,wrap IntKind.i64 (s.1+1)),r_6.1,r_6.2.1,r_6.2.2)).bind fun r_9=>((idxM
 x.1.2.2.1 (wrap IntKind.i64 (wrap IntKind.i64 (wrap IntKind.i64 (s.1+1)*wrap IntKind.i64 (x.1.1+1))+wrap IntKind.i64 (s_1.1+1)))).bind fun r=>some
 r).bind fun (ov_3:Int)=>(m66 ((s_1.1,wrap IntKind.i64 (s.1+1)),(s_1.1,s.1),r_6.1,r_6.2.1,r_6.2.2)).bind fun r_10=>((idxM x.1.2.2.1 (wrap
 IntKind.i64 (wrap IntKind.i64 (wrap IntKind.i64 (s.1+1)*wrap IntKind.i64 (x.1.1+1))+s_1.1))).bind fun r=>some r).bind fun (ov_4:Int)=>(m66
 ((s_1.1,s.1),(wrap IntKind.i64 (s_1.1+1),wrap IntKind.i64 (s.1+1)),r_6.1,r_6.2.1,r_6.2.2)).bind fun r=>some (wrap IntKind.i64 (wrap IntKind.i64
 (wrap IntKind.i64 (0+wrap IntKind.i64 (ov_2*r_9))+wrap IntKind.i64 (ov_3*r_10))+wrap IntKind.i64 (ov_4*r)))).bind fun (ov_2:Int)=>(((idxM
 x.1.2.2.1 (wrap IntKind.i64 (wrap IntKind.i64 (s.1*wrap IntKind.i64 (x.1.1+1))+s_1.1))).bind fun r=>some r).bind fun (ov_3:Int)=>(m66 ((wrap
 IntKind.i64 (s_1.1+1),wrap IntKind.i64 (s.1+1)),(s_1.1,wrap IntKind.i64 (s.1+1)),r_8.1,r_8.2.1,r_8.2.2)).bind fun r_9=>((idxM x.1.2.2.1 (wrap
 IntKind.i64 (wrap IntKind.i64 (wrap IntKind.i64 (s.1+1)*wrap IntKind.i64 (x.1.1+1))+wrap IntKind.i64 (s_1.1+1)))).bind fun r=>some r).bind fun
 (ov_4:Int)=>(m66 ((s_1.1,wrap IntKind.i64 (s.1+1)),(s_1.1,s.1),r_8.1,r_8.2.1,r_8.2.2)).bind fun r_10=>((idxM x.1.2.2.1 (wrap IntKind.i64 (wrap
 IntKind.i64 (wrap IntKind.i64 (s.1+1)*wrap IntKind.i64 (x.1.1+1))+s_1.1))).bind fun r=>some r).bind fun (ov_5:Int)=>(m66 ((s_1.1,s.1),(wrap
 IntKind.i64 (s_1.1+1),wrap IntKind.i64 (s.1+1)),r_8.1,r_8.2.1,r_8.2.2)).bind fun r=>some (wrap IntKind.i64 (wrap IntKind.i64 (wrap IntKind.i64 (0 +
 wrap IntKind.i64 (ov_3*r_9))+wrap IntKind.i64 (ov_4*r_10))+wrap IntKind.i64 (ov_5*r)))).bind fun (ov_3:Int)=>(m42 (wrap IntKind.i64 (wrap
 IntKind.i64 (wrap IntKind.i64 (wrap IntKind.i64 (r_4.1*wrap IntKind.i64 (wrap IntKind.i64 (r_6.2.1*r_8.2.2)-wrap IntKind.i64 (r_6.2.2*r_8.2.1))) -
 wrap IntKind.i64 (r_4.2.1*wrap IntKind.i64 (wrap IntKind.i64 (r_6.1*r_8.2.2)-wrap IntKind.i64 (r_6.2.2*r_8.1))))+wrap IntKind.i64 (r_4.2.2*wrap
 IntKind.i64 (wrap IntKind.i64 (r_6.1*r_8.2.1)-wrap IntKind.i64 (r_6.2.1*r_8.1))))*wrap IntKind.i64 (wrap IntKind.i64 (wrap IntKind.i64 (wrap
 IntKind.i64 (ov_1*r_6.2.2)*r_8.2.2)+wrap IntKind.i64 (wrap IntKind.i64 (ov_2*r_4.2.2)*r_8.2.2))+wrap IntKind.i64 (wrap IntKind.i64 (ov_3 *
 r_4.2.2)*r_6.2.2))),wrap IntKind.i64 (wrap IntKind.i64 (6*wrap IntKind.i64 (wrap IntKind.i64 (r_4.2.2*r_6.2.2)*r_8.2.2))*wrap IntKind.i64 (wrap
 IntKind.i64 (r_4.2.2*r_6.2.2)*r_8.2.2)))).bind fun r_9=>(m67 ((s_2.2.1,s_2.2.2),r_9.1.1,r_9.1.2)).bind fun r=>some (Sum.inl (wrap IntKind.i64
 (s_2.1+1),r.1.1,r.1.2)) else some (Sum.inr (s_2.2.1,s_2.2.2))) (2,o_2.1,o_2.2)).bind fun o=>some (Sum.inl (wrap IntKind.i64 (s_1.1+1),o.1,o.2))
 else some (Sum.inr (s_1.2.1,s_1.2.2))) (0,s.2.1,s.2.2)).bind fun o=>some (Sum.inl (wrap IntKind.i64 (s.1+1),o.1,o.2)) else some (Sum.inr (s.2.1,
 s.2.2))) (0,r_2.1.1,r_2.1.2)).bind fun o=>some (o.1,o.2)).bind fun (ov_1:List UInt8×List UInt8)=>((m42 (0,1)).bind fun r_2=>(loopM (fun (s:Int
 × List UInt8×List UInt8)=>bif ltM s.1 x.1.2.1 then (loopM (fun (s_1:Int×List UInt8×List UInt8)=>bif ltM s_1.1 x.1.1 then ((loopM (fun (s_2:Int ×
 List (Int×Int×Int))=>bif ltM s_2.1 (lenM o) then ((chkM s_2.1 (lenM o)).bind fun r_3=>(idxM o s_2.1).bind fun r_4=>(remM (wrap IntKind.i64 (s_2.1 +
 1)) (lenM o)).bind fun r_5=>(chkM r_5 (lenM o)).bind fun r_6=>(idxM o r_5).bind fun r_7=>(m66 ((s_1.1,s.1),(wrap IntKind.i64 (s_1.1+1),s.1),r_4.1,
 r_4.2.1,r_4.2.2)).bind fun r_8=>(m66 ((s_1.1,s.1),(wrap IntKind.i64 (s_1.1+1),s.1),r_7.1,r_7.2.1,r_7.2.2)).bind fun r_9=>(bif leM 0 r_8 then
 ((bif PE.notM (eqM (lenM s_2.2) 0) then chkM (wrap IntKind.i64 (lenM s_2.2-1)) (lenM s_2.2) else some ()).bind fun r_10=>(bif PE.notM (eqM (lenM s_2.2) 0)
 then idxM s_2.2 (wrap IntKind.i64 (lenM s_2.2-1)) else some (0,0,0)).bind fun r_11=>bif PE.orM (eqM (lenM s_2.2) 0) (PE.notM (PE.andM (eqM r_11.1 r_4.1)
 (PE.andM (eqM r_11.2.1 r_4.2.1) (eqM r_11.2.2 r_4.2.2)))) then (appM (nat_lit 24) s_2.2 [(r_4.1,r_4.2.1,r_4.2.2)]).bind fun r=>some r else some
 s_2.2).bind fun (ov:List (Int×Int×Int))=>some ov else some s_2.2).bind fun o_1=>bif PE.orM (PE.andM (ltM 0 r_8) (ltM r_9 0)) (PE.andM (ltM r_8 0)
 (ltM 0 r_9)) then (m94 (wrap IntKind.i64 (wrap IntKind.i64 (r_4.1*r_9)-wrap IntKind.i64 (r_7.1*r_8)),wrap IntKind.i64 (wrap IntKind.i64 (r_4.2.1*r_9)
 - wrap IntKind.i64 (r_7.2.1*r_8)),wrap IntKind.i64 (wrap IntKind.i64 (r_4.2.2*r_9)-wrap IntKind.i64 (r_7.2.2*r_8)))).bind fun r_10=>((bif PE.notM
 (eqM (lenM o_1) 0) then chkM (wrap IntKind.i64 (lenM o_1-1)) (lenM o_1) else some ()).bind fun r_11=>(bif PE.notM (eqM (lenM o_1) 0) then idxM o_1 (wrap
 IntKind.i64 (lenM o_1-1)) else some (0,0,0)).bind fun r_12=>bif PE.orM (eqM (lenM o_1) 0) (PE.notM (PE.andM (eqM r_12.1 r_10.1) (PE.andM (eqM r_12.2.1
 r_10.2.1) (eqM r_12.2.2 r_10.2.2)))) then (appM (nat_lit 24) o_1 [(r_10.1,r_10.2.1,r_10.2.2)]).bind fun r=>some r else some o_1).bind fun (ov:List (Int
 × Int×Int))=>some ov else some o_1).bind fun o=>some (Sum.inl (wrap IntKind.i64 (s_2.1+1),o)) else some (Sum.inr s_2.2)) (0,[])).bind fun o_1=>bif
 eqM (lenM o_1) 0 then some o_1 else (loopM (fun (s_2:Int×List (Int×Int×Int))=>bif ltM s_2.1 (lenM o_1) then ((chkM s_2.1 (lenM o_1)).bind fun r_3 =>
 (idxM o_1 s_2.1).bind fun r_4=>(remM (wrap IntKind.i64 (s_2.1+1)) (lenM o_1)).bind fun r_5=>(chkM r_5 (lenM o_1)).bind fun r_6=>(idxM o_1 r_5).bind
 fun r_7=>(m66 ((wrap IntKind.i64 (s_1.1+1),s.1),(wrap IntKind.i64 (s_1.1+1),wrap IntKind.i64 (s.1+1)),r_4.1,r_4.2.1,r_4.2.2)).bind fun r_8 =>
 (m66 ((wrap IntKind.i64 (s_1.1+1),s.1),(wrap IntKind.i64 (s_1.1+1),wrap IntKind.i64 (s.1+1)),r_7.1,r_7.2.1,r_7.2.2)).bind fun r_9=>(bif leM 0
 r_8 then ((bif PE.notM (eqM (lenM s_2.2) 0) then chkM (wrap IntKind.i64 (lenM s_2.2-1)) (lenM s_2.2) else some ()).bind fun r_10=>(bif PE.notM (eqM (lenM
 s_2.2) 0) then idxM s_2.2 (wrap IntKind.i64 (lenM s_2.2-1)) else some (0,0,0)).bind fun r_11=>bif PE.orM (eqM (lenM s_2.2) 0) (PE.notM (PE.andM (eqM
 r_11.1 r_4.1) (PE.andM (eqM r_11.2.1 r_4.2.1) (eqM r_11.2.2 r_4.2.2)))) then (appM (nat_lit 24) s_2.2 [(r_4.1,r_4.2.1,r_4.2.2)]).bind fun r=>some r else
 some s_2.2).bind fun (ov:List (Int×Int×Int))=>some ov else some s_2.2).bind fun o_2=>bif PE.orM (PE.andM (ltM 0 r_8) (ltM r_9 0)) (PE.andM (ltM r_8
 0) (ltM 0 r_9)) then (m94 (wrap IntKind.i64 (wrap IntKind.i64 (r_4.1*r_9)-wrap IntKind.i64 (r_7.1*r_8)),wrap IntKind.i64 (wrap IntKind.i64 (r_4.2.1 *
 r_9)-wrap IntKind.i64 (r_7.2.1*r_8)),wrap IntKind.i64 (wrap IntKind.i64 (r_4.2.2*r_9)-wrap IntKind.i64 (r_7.2.2*r_8)))).bind fun r_10=>((bif
 PE.notM (eqM (lenM o_2) 0) then chkM (wrap IntKind.i64 (lenM o_2-1)) (lenM o_2) else some ()).bind fun r_11=>(bif PE.notM (eqM (lenM o_2) 0) then idxM o_2
 (wrap IntKind.i64 (lenM o_2-1)) else some (0,0,0)).bind fun r_12=>bif PE.orM (eqM (lenM o_2) 0) (PE.notM (PE.andM (eqM r_12.1 r_10.1) (PE.andM (eqM
 r_12.2.1 r_10.2.1) (eqM r_12.2.2 r_10.2.2)))) then (appM (nat_lit 24) o_2 [(r_10.1,r_10.2.1,r_10.2.2)]).bind fun r=>some r else some o_2).bind fun (ov :
 List (Int×Int×Int))=>some ov else some o_2).bind fun o=>some (Sum.inl (wrap IntKind.i64 (s_2.1+1),o)) else some (Sum.inr s_2.2)) (0,[])).bind fun
 o_2=>bif eqM (lenM o_2) 0 then some o_2 else (loopM (fun (s_2:Int×List (Int×Int×Int))=>bif ltM s_2.1 (lenM o_2) then ((chkM s_2.1 (lenM o_2)).bind
 fun r_3=>(idxM o_2 s_2.1).bind fun r_4=>(remM (wrap IntKind.i64 (s_2.1+1)) (lenM o_2)).bind fun r_5=>(chkM r_5 (lenM o_2)).bind fun r_6=>(idxM o_2
 r_5).bind fun r_7=>(m66 ((wrap IntKind.i64 (s_1.1+1),wrap IntKind.i64 (s.1+1)),(s_1.1,s.1),r_4.1,r_4.2.1,r_4.2.2)).bind fun r_8=>(m66 ((wrap
 IntKind.i64 (s_1.1+1),wrap IntKind.i64 (s.1+1)),(s_1.1,s.1),r_7.1,r_7.2.1,r_7.2.2)).bind fun r_9=>(bif leM 0 r_8 then ((bif PE.notM (eqM (lenM
 s_2.2) 0) then chkM (wrap IntKind.i64 (lenM s_2.2-1)) (lenM s_2.2) else some ()).bind fun r_10=>(bif PE.notM (eqM (lenM s_2.2) 0) then idxM s_2.2 (wrap
 IntKind.i64 (lenM s_2.2-1)) else some (0,0,0)).bind fun r_11=>bif PE.orM (eqM (lenM s_2.2) 0) (PE.notM (PE.andM (eqM r_11.1 r_4.1) (PE.andM (eqM
 r_11.2.1 r_4.2.1) (eqM r_11.2.2 r_4.2.2)))) then (appM (nat_lit 24) s_2.2 [(r_4.1,r_4.2.1,r_4.2.2)]).bind fun r=>some r else some s_2.2).bind fun (ov :
 List (Int×Int×Int))=>some ov else some s_2.2).bind fun o_3=>bif PE.orM (PE.andM (ltM 0 r_8) (ltM r_9 0)) (PE.andM (ltM r_8 0) (ltM 0 r_9)) then (m94
 (wrap IntKind.i64 (wrap IntKind.i64 (r_4.1*r_9)-wrap IntKind.i64 (r_7.1*r_8)),wrap IntKind.i64 (wrap IntKind.i64 (r_4.2.1*r_9)-wrap IntKind.i64
 (r_7.2.1*r_8)),wrap IntKind.i64 (wrap IntKind.i64 (r_4.2.2*r_9)-wrap IntKind.i64 (r_7.2.2*r_8)))).bind fun r_10=>((bif PE.notM (eqM (lenM o_3) 0)
 then chkM (wrap IntKind.i64 (lenM o_3-1)) (lenM o_3) else some ()).bind fun r_11=>(bif PE.notM (eqM (lenM o_3) 0) then idxM o_3 (wrap IntKind.i64 (lenM
 o_3-1)) else some (0,0,0)).bind fun r_12=>bif PE.orM (eqM (lenM o_3) 0) (PE.notM (PE.andM (eqM r_12.1 r_10.1) (PE.andM (eqM r_12.2.1 r_10.2.1) (eqM
 r_12.2.2 r_10.2.2)))) then (appM (nat_lit 24) o_3 [(r_10.1,r_10.2.1,r_10.2.2)]).bind fun r=>some r else some o_3).bind fun (ov:List (Int×Int×Int))
 => some ov else some o_3).bind fun o=>some (Sum.inl (wrap IntKind.i64 (s_2.1+1),o)) else some (Sum.inr s_2.2)) (0,[])).bind fun o=>bif eqM (lenM o) 0
 then some o else some o).bind fun o_1=>(loopM (fun (s_2:Int×List UInt8×List UInt8)=>bif ltM s_2.1 (lenM o_1) then (chkM 0 (lenM o_1)).bind fun r_3
 => (idxM o_1 0).bind fun r_4=>(chkM (wrap IntKind.i64 (s_2.1-1)) (lenM o_1)).bind fun r_5=>(idxM o_1 (wrap IntKind.i64 (s_2.1-1))).bind fun r_6 =>
 (chkM s_2.1 (lenM o_1)).bind fun r_7=>(idxM o_1 s_2.1).bind fun r_8=>(((idxM x.1.2.2.2 (wrap IntKind.i64 (wrap IntKind.i64 (s.1*wrap IntKind.i64 (x.1.1
 + 1))+s_1.1))).bind fun r=>some r).bind fun (ov_2:Int)=>(m66 ((wrap IntKind.i64 (s_1.1+1),s.1),(wrap IntKind.i64 (s_1.1+1),wrap IntKind.i64
 (s.1+1)),r_4.1,r_4.2.1,r_4.2.2)).bind fun r_9=>((idxM x.1.2.2.2 (wrap IntKind.i64 (wrap IntKind.i64 (s.1*wrap IntKind.i64 (x.1.1+1))+wrap
 IntKind.i64 (s_1.1+1)))).bind fun r=>some r).bind fun (ov_3:Int)=>(m66 ((wrap IntKind.i64 (s_1.1+1),wrap IntKind.i64 (s.1+1)),(s_1.1,s.1),
 r_4.1,r_4.2.1,r_4.2.2)).bind fun r_10=>((idxM x.1.2.2.2 (wrap IntKind.i64 (wrap IntKind.i64 (wrap IntKind.i64 (s.1+1)*wrap IntKind.i64 (x.1.1+1)) +
 wrap IntKind.i64 (s_1.1+1)))).bind fun r=>some r).bind fun (ov_4:Int)=>(m66 ((s_1.1,s.1),(wrap IntKind.i64 (s_1.1+1),s.1),r_4.1,r_4.2.1,
 r_4.2.2)).bind fun r=>some (wrap IntKind.i64 (wrap IntKind.i64 (wrap IntKind.i64 (0+wrap IntKind.i64 (ov_2*r_9))+wrap IntKind.i64 (ov_3*r_10)) +
 wrap IntKind.i64 (ov_4*r)))).bind fun (ov_2:Int)=>(((idxM x.1.2.2.2 (wrap IntKind.i64 (wrap IntKind.i64 (s.1*wrap IntKind.i64 (x.1.1+1)) +
 s_1.1))).bind fun r=>some r).bind fun (ov_3:Int)=>(m66 ((wrap IntKind.i64 (s_1.1+1),s.1),(wrap IntKind.i64 (s_1.1+1),wrap IntKind.i64 (s.1+1)),
 r_6.1,r_6.2.1,r_6.2.2)).bind fun r_9=>((idxM x.1.2.2.2 (wrap IntKind.i64 (wrap IntKind.i64 (s.1*wrap IntKind.i64 (x.1.1+1))+wrap IntKind.i64 (s_1.1
 + 1)))).bind fun r=>some r).bind fun (ov_4:Int)=>(m66 ((wrap IntKind.i64 (s_1.1+1),wrap IntKind.i64 (s.1+1)),(s_1.1,s.1),r_6.1,r_6.2.1,
 r_6.2.2)).bind fun r_10=>((idxM x.1.2.2.2 (wrap IntKind.i64 (wrap IntKind.i64 (wrap IntKind.i64 (s.1+1)*wrap IntKind.i64 (x.1.1+1))+wrap IntKind.i64
 (s_1.1+1)))).bind fun r=>some r).bind fun (ov_5:Int)=>(m66 ((s_1.1,s.1),(wrap IntKind.i64 (s_1.1+1),s.1),r_6.1,r_6.2.1,r_6.2.2)).bind fun r =>
 some (wrap IntKind.i64 (wrap IntKind.i64 (wrap IntKind.i64 (0+wrap IntKind.i64 (ov_3*r_9))+wrap IntKind.i64 (ov_4*r_10))+wrap IntKind.i64 (ov_5 *
 r)))).bind fun (ov_3:Int)=>(((idxM x.1.2.2.2 (wrap IntKind.i64 (wrap IntKind.i64 (s.1*wrap IntKind.i64 (x.1.1+1))+s_1.1))).bind fun r=>some
 r).bind fun (ov_4:Int)=>(m66 ((wrap IntKind.i64 (s_1.1+1),s.1),(wrap IntKind.i64 (s_1.1+1),wrap IntKind.i64 (s.1+1)),r_8.1,r_8.2.1,
 r_8.2.2)).bind fun r_9=>((idxM x.1.2.2.2 (wrap IntKind.i64 (wrap IntKind.i64 (s.1*wrap IntKind.i64 (x.1.1+1))+wrap IntKind.i64 (s_1.1+1)))).bind fun
 r=>some r).bind fun (ov_5:Int)=>(m66 ((wrap IntKind.i64 (s_1.1+1),wrap IntKind.i64 (s.1+1)),(s_1.1,s.1),r_8.1,r_8.2.1,r_8.2.2)).bind fun r_10
 => ((idxM x.1.2.2.2 (wrap IntKind.i64 (wrap IntKind.i64 (wrap IntKind.i64 (s.1+1)*wrap IntKind.i64 (x.1.1+1))+wrap IntKind.i64 (s_1.1+1)))).bind fun
 r=>some r).bind fun (ov_6:Int)=>(m66 ((s_1.1,s.1),(wrap IntKind.i64 (s_1.1+1),s.1),r_8.1,r_8.2.1,r_8.2.2)).bind fun r=>some (wrap IntKind.i64
 (wrap IntKind.i64 (wrap IntKind.i64 (0+wrap IntKind.i64 (ov_4*r_9))+wrap IntKind.i64 (ov_5*r_10))+wrap IntKind.i64 (ov_6*r)))).bind fun (ov_4 :
 Int)=>(m42 (wrap IntKind.i64 (wrap IntKind.i64 (wrap IntKind.i64 (wrap IntKind.i64 (r_4.1*wrap IntKind.i64 (wrap IntKind.i64 (r_6.2.1*r_8.2.2)-wrap
 IntKind.i64 (r_6.2.2*r_8.2.1)))-wrap IntKind.i64 (r_4.2.1*wrap IntKind.i64 (wrap IntKind.i64 (r_6.1*r_8.2.2)-wrap IntKind.i64 (r_6.2.2*r_8.1)))) +
 wrap IntKind.i64 (r_4.2.2*wrap IntKind.i64 (wrap IntKind.i64 (r_6.1*r_8.2.1)-wrap IntKind.i64 (r_6.2.1*r_8.1))))*wrap IntKind.i64 (wrap IntKind.i64
 (wrap IntKind.i64 (wrap IntKind.i64 (ov_2*r_6.2.2)*r_8.2.2)+wrap IntKind.i64 (wrap IntKind.i64 (ov_3*r_4.2.2)*r_8.2.2))+wrap IntKind.i64 (wrap
 IntKind.i64 (ov_4*r_4.2.2)*r_6.2.2))),wrap IntKind.i64 (wrap IntKind.i64 (6*wrap IntKind.i64 (wrap IntKind.i64 (r_4.2.2*r_6.2.2)*r_8.2.2))*wrap
 IntKind.i64 (wrap IntKind.i64 (r_4.2.2*r_6.2.2)*r_8.2.2)))).bind fun r_9=>(m67 ((s_2.2.1,s_2.2.2),r_9.1.1,r_9.1.2)).bind fun r=>some (Sum.inl (wrap
 IntKind.i64 (s_2.1+1),r.1.1,r.1.2)) else some (Sum.inr (s_2.2.1,s_2.2.2))) (2,s_1.2.1,s_1.2.2)).bind fun o_2=>((loopM (fun (s_2:Int×List (Int ×
 Int×Int))=>bif ltM s_2.1 (lenM o) then ((chkM s_2.1 (lenM o)).bind fun r_3=>(idxM o s_2.1).bind fun r_4=>(remM (wrap IntKind.i64 (s_2.1+1)) (lenM
 o)).bind fun r_5=>(chkM r_5 (lenM o)).bind fun r_6=>(idxM o r_5).bind fun r_7=>(m66 ((s_1.1,s.1),(wrap IntKind.i64 (s_1.1+1),wrap IntKind.i64 (s.1
 + 1)),r_4.1,r_4.2.1,r_4.2.2)).bind fun r_8=>(m66 ((s_1.1,s.1),(wrap IntKind.i64 (s_1.1+1),wrap IntKind.i64 (s.1+1)),r_7.1,r_7.2.1,
 r_7.2.2)).bind fun r_9=>(bif leM 0 r_8 then ((bif PE.notM (eqM (lenM s_2.2) 0) then chkM (wrap IntKind.i64 (lenM s_2.2-1)) (lenM s_2.2) else some ()).bind
 fun r_10=>(bif PE.notM (eqM (lenM s_2.2) 0) then idxM s_2.2 (wrap IntKind.i64 (lenM s_2.2-1)) else some (0,0,0)).bind fun r_11=>bif PE.orM (eqM (lenM
 s_2.2) 0) (PE.notM (PE.andM (eqM r_11.1 r_4.1) (PE.andM (eqM r_11.2.1 r_4.2.1) (eqM r_11.2.2 r_4.2.2)))) then (appM (nat_lit 24) s_2.2 [(r_4.1,r_4.2.1,
 r_4.2.2)]).bind fun r=>some r else some s_2.2).bind fun (ov:List (Int×Int×Int))=>some ov else some s_2.2).bind fun o_3=>bif PE.orM (PE.andM (ltM 0
 r_8) (ltM r_9 0)) (PE.andM (ltM r_8 0) (ltM 0 r_9)) then (m94 (wrap IntKind.i64 (wrap IntKind.i64 (r_4.1*r_9)-wrap IntKind.i64 (r_7.1*r_8)),wrap
 IntKind.i64 (wrap IntKind.i64 (r_4.2.1*r_9)-wrap IntKind.i64 (r_7.2.1*r_8)),wrap IntKind.i64 (wrap IntKind.i64 (r_4.2.2*r_9)-wrap IntKind.i64
 (r_7.2.2*r_8)))).bind fun r_10=>((bif PE.notM (eqM (lenM o_3) 0) then chkM (wrap IntKind.i64 (lenM o_3-1)) (lenM o_3) else some ()).bind fun r_11 =>
 (bif PE.notM (eqM (lenM o_3) 0) then idxM o_3 (wrap IntKind.i64 (lenM o_3-1)) else some (0,0,0)).bind fun r_12=>bif PE.orM (eqM (lenM o_3) 0) (PE.notM
 (PE.andM (eqM r_12.1 r_10.1) (PE.andM (eqM r_12.2.1 r_10.2.1) (eqM r_12.2.2 r_10.2.2)))) then (appM (nat_lit 24) o_3 [(r_10.1,r_10.2.1,r_10.2.2)]).bind fun
 r=>some r else some o_3).bind fun (ov:List (Int×Int×Int))=>some ov else some o_3).bind fun o=>some (Sum.inl (wrap IntKind.i64 (s_2.1+1),o))
 else some (Sum.inr s_2.2)) (0,[])).bind fun o_3=>bif eqM (lenM o_3) 0 then some o_3 else (loopM (fun (s_2:Int×List (Int×Int×Int))=>bif ltM s_2.1
 (lenM o_3) then ((chkM s_2.1 (lenM o_3)).bind fun r_3=>(idxM o_3 s_2.1).bind fun r_4=>(remM (wrap IntKind.i64 (s_2.1+1)) (lenM o_3)).bind fun r_5 =>
 (chkM r_5 (lenM o_3)).bind fun r_6=>(idxM o_3 r_5).bind fun r_7=>(m66 ((wrap IntKind.i64 (s_1.1+1),wrap IntKind.i64 (s.1+1)),(s_1.1,wrap
 IntKind.i64 (s.1+1)),r_4.1,r_4.2.1,r_4.2.2)).bind fun r_8=>(m66 ((wrap IntKind.i64 (s_1.1+1),wrap IntKind.i64 (s.1+1)),(s_1.1,wrap IntKind.i64
 (s.1+1)),r_7.1,r_7.2.1,r_7.2.2)).bind fun r_9=>(bif leM 0 r_8 then ((bif PE.notM (eqM (lenM s_2.2) 0) then chkM (wrap IntKind.i64 (lenM s_2.2-1))
 (lenM s_2.2) else some ()).bind fun r_10=>(bif PE.notM (eqM (lenM s_2.2) 0) then idxM s_2.2 (wrap IntKind.i64 (lenM s_2.2-1)) else some (0,0,0)).bind
 fun r_11=>bif PE.orM (eqM (lenM s_2.2) 0) (PE.notM (PE.andM (eqM r_11.1 r_4.1) (PE.andM (eqM r_11.2.1 r_4.2.1) (eqM r_11.2.2 r_4.2.2)))) then (appM (nat_lit
 24) s_2.2 [(r_4.1,r_4.2.1,r_4.2.2)]).bind fun r=>some r else some s_2.2).bind fun (ov:List (Int×Int×Int))=>some ov else some s_2.2).bind fun o_4
 => bif PE.orM (PE.andM (ltM 0 r_8) (ltM r_9 0)) (PE.andM (ltM r_8 0) (ltM 0 r_9)) then (m94 (wrap IntKind.i64 (wrap IntKind.i64 (r_4.1*r_9)-wrap
 IntKind.i64 (r_7.1*r_8)),wrap IntKind.i64 (wrap IntKind.i64 (r_4.2.1*r_9)-wrap IntKind.i64 (r_7.2.1*r_8)),wrap IntKind.i64 (wrap IntKind.i64
 (r_4.2.2*r_9)-wrap IntKind.i64 (r_7.2.2*r_8)))).bind fun r_10=>((bif PE.notM (eqM (lenM o_4) 0) then chkM (wrap IntKind.i64 (lenM o_4-1)) (lenM o_4)
 else some ()).bind fun r_11=>(bif PE.notM (eqM (lenM o_4) 0) then idxM o_4 (wrap IntKind.i64 (lenM o_4-1)) else some (0,0,0)).bind fun r_12=>bif
 PE.orM (eqM (lenM o_4) 0) (PE.notM (PE.andM (eqM r_12.1 r_10.1) (PE.andM (eqM r_12.2.1 r_10.2.1) (eqM r_12.2.2 r_10.2.2)))) then (appM (nat_lit 24) o_4
 [(r_10.1,r_10.2.1,r_10.2.2)]).bind fun r=>some r else some o_4).bind fun (ov:List (Int×Int×Int))=>some ov else some o_4).bind fun o=>some
 (Sum.inl (wrap IntKind.i64 (s_2.1+1),o)) else some (Sum.inr s_2.2)) (0,[])).bind fun o_4=>bif eqM (lenM o_4) 0 then some o_4 else (loopM (fun (s_2:Int
 × List (Int×Int×Int))=>bif ltM s_2.1 (lenM o_4) then ((chkM s_2.1 (lenM o_4)).bind fun r_3=>(idxM o_4 s_2.1).bind fun r_4=>(remM (wrap IntKind.i64
 (s_2.1+1)) (lenM o_4)).bind fun r_5=>(chkM r_5 (lenM o_4)).bind fun r_6=>(idxM o_4 r_5).bind fun r_7=>(m66 ((s_1.1,wrap IntKind.i64 (s.1+1)),
 (s_1.1,s.1),r_4.1,r_4.2.1,r_4.2.2)).bind fun r_8=>(m66 ((s_1.1,wrap IntKind.i64 (s.1+1)),(s_1.1,s.1),r_7.1,r_7.2.1,r_7.2.2)).bind fun r_9 =>
 (bif leM 0 r_8 then ((bif PE.notM (eqM (lenM s_2.2) 0) then chkM (wrap IntKind.i64 (lenM s_2.2-1)) (lenM s_2.2) else some ()).bind fun r_10=>(bif PE.notM
 (eqM (lenM s_2.2) 0) then idxM s_2.2 (wrap IntKind.i64 (lenM s_2.2-1)) else some (0,0,0)).bind fun r_11=>bif PE.orM (eqM (lenM s_2.2) 0) (PE.notM
 (PE.andM (eqM r_11.1 r_4.1) (PE.andM (eqM r_11.2.1 r_4.2.1) (eqM r_11.2.2 r_4.2.2)))) then (appM (nat_lit 24) s_2.2 [(r_4.1,r_4.2.1,r_4.2.2)]).bind fun r =>
 some r else some s_2.2).bind fun (ov:List (Int×Int×Int))=>some ov else some s_2.2).bind fun o_5=>bif PE.orM (PE.andM (ltM 0 r_8) (ltM r_9 0))
 (PE.andM (ltM r_8 0) (ltM 0 r_9)) then (m94 (wrap IntKind.i64 (wrap IntKind.i64 (r_4.1*r_9)-wrap IntKind.i64 (r_7.1*r_8)),wrap IntKind.i64 (wrap
 IntKind.i64 (r_4.2.1*r_9)-wrap IntKind.i64 (r_7.2.1*r_8)),wrap IntKind.i64 (wrap IntKind.i64 (r_4.2.2*r_9)-wrap IntKind.i64 (r_7.2.2*r_8)))).bind
 fun r_10=>((bif PE.notM (eqM (lenM o_5) 0) then chkM (wrap IntKind.i64 (lenM o_5-1)) (lenM o_5) else some ()).bind fun r_11=>(bif PE.notM (eqM (lenM
 o_5) 0) then idxM o_5 (wrap IntKind.i64 (lenM o_5-1)) else some (0,0,0)).bind fun r_12=>bif PE.orM (eqM (lenM o_5) 0) (PE.notM (PE.andM (eqM r_12.1
 r_10.1) (PE.andM (eqM r_12.2.1 r_10.2.1) (eqM r_12.2.2 r_10.2.2)))) then (appM (nat_lit 24) o_5 [(r_10.1,r_10.2.1,r_10.2.2)]).bind fun r=>some r else some
 o_5).bind fun (ov:List (Int×Int×Int))=>some ov else some o_5).bind fun o=>some (Sum.inl (wrap IntKind.i64 (s_2.1+1),o)) else some (Sum.inr
 s_2.2)) (0,[])).bind fun o=>bif eqM (lenM o) 0 then some o else some o).bind fun o_3=>(loopM (fun (s_2:Int×List UInt8×List UInt8)=>bif ltM s_2.1
 (lenM o_3) then (chkM 0 (lenM o_3)).bind fun r_3=>(idxM o_3 0).bind fun r_4=>(chkM (wrap IntKind.i64 (s_2.1-1)) (lenM o_3)).bind fun r_5=>(idxM o_3
 (wrap IntKind.i64 (s_2.1-1))).bind fun r_6=>(chkM s_2.1 (lenM o_3)).bind fun r_7=>(idxM o_3 s_2.1).bind fun r_8=>(((idxM x.1.2.2.2 (wrap IntKind.i64
 (wrap IntKind.i64 (s.1*wrap IntKind.i64 (x.1.1+1))+s_1.1))).bind fun r=>some r).bind fun (ov_2:Int)=>(m66 ((wrap IntKind.i64 (s_1.1+1),wrap
 IntKind.i64 (s.1+1)),(s_1.1,wrap IntKind.i64 (s.1+1)),r_4.1,r_4.2.1,r_4.2.2)).bind fun r_9=>((idxM x.1.2.2.2 (wrap IntKind.i64 (wrap IntKind.i64
 (wrap IntKind.i64 (s.1+1)*wrap IntKind.i64 (x.1.1+1))+wrap IntKind.i64 (s_1.1+1)))).bind fun r=>some r).bind fun (ov_3:Int)=>(m66 ((s_1.1,
 wrap IntKind.i64 (s.1+1)),(s_1.1,s.1),r_4.1,r_4.2.1,r_4.2.2)).bind fun r_10=>((idxM x.1.2.2.2 (wrap IntKind.i64 (wrap IntKind.i64 (wrap IntKind.i64
 (s.1+1)*wrap IntKind.i64 (x.1.1+1))+s_1.1))).bind fun r=>some r).bind fun (ov_4:Int)=>(m66 ((s_1.1,s.1),(wrap IntKind.i64 (s_1.1+1),wrap
 IntKind.i64 (s.1+1)),r_4.1,r_4.2.1,r_4.2.2)).bind fun r=>some (wrap IntKind.i64 (wrap IntKind.i64 (wrap IntKind.i64 (0+wrap IntKind.i64 (ov_2*r_9))
 + wrap IntKind.i64 (ov_3*r_10))+wrap IntKind.i64 (ov_4*r)))).bind fun (ov_2:Int)=>(((idxM x.1.2.2.2 (wrap IntKind.i64 (wrap IntKind.i64 (s.1*wrap
 IntKind.i64 (x.1.1+1))+s_1.1))).bind fun r=>some r).bind fun (ov_3:Int)=>(m66 ((wrap IntKind.i64 (s_1.1+1),wrap IntKind.i64 (s.1+1)),(s_1.1,
 wrap IntKind.i64 (s.1+1)),r_6.1,r_6.2.1,r_6.2.2)).bind fun r_9=>((idxM x.1.2.2.2 (wrap IntKind.i64 (wrap IntKind.i64 (wrap IntKind.i64 (s.1+1)*wrap
 IntKind.i64 (x.1.1+1))+wrap IntKind.i64 (s_1.1+1)))).bind fun r=>some r).bind fun (ov_4:Int)=>(m66 ((s_1.1,wrap IntKind.i64 (s.1+1)),(s_1.1,
 s.1),r_6.1,r_6.2.1,r_6.2.2)).bind fun r_10=>((idxM x.1.2.2.2 (wrap IntKind.i64 (wrap IntKind.i64 (wrap IntKind.i64 (s.1+1)*wrap IntKind.i64 (x.1.1 +
 1))+s_1.1))).bind fun r=>some r).bind fun (ov_5:Int)=>(m66 ((s_1.1,s.1),(wrap IntKind.i64 (s_1.1+1),wrap IntKind.i64 (s.1+1)),r_6.1,r_6.2.1,
 r_6.2.2)).bind fun r=>some (wrap IntKind.i64 (wrap IntKind.i64 (wrap IntKind.i64 (0+wrap IntKind.i64 (ov_3*r_9))+wrap IntKind.i64 (ov_4*r_10)) +
 wrap IntKind.i64 (ov_5*r)))).bind fun (ov_3:Int)=>(((idxM x.1.2.2.2 (wrap IntKind.i64 (wrap IntKind.i64 (s.1*wrap IntKind.i64 (x.1.1+1)) +
 s_1.1))).bind fun r=>some r).bind fun (ov_4:Int)=>(m66 ((wrap IntKind.i64 (s_1.1+1),wrap IntKind.i64 (s.1+1)),(s_1.1,wrap IntKind.i64 (s.1+1)),
 r_8.1,r_8.2.1,r_8.2.2)).bind fun r_9=>((idxM x.1.2.2.2 (wrap IntKind.i64 (wrap IntKind.i64 (wrap IntKind.i64 (s.1+1)*wrap IntKind.i64 (x.1.1+1)) +
 wrap IntKind.i64 (s_1.1+1)))).bind fun r=>some r).bind fun (ov_5:Int)=>(m66 ((s_1.1,wrap IntKind.i64 (s.1+1)),(s_1.1,s.1),r_8.1,r_8.2.1,
 r_8.2.2)).bind fun r_10=>((idxM x.1.2.2.2 (wrap IntKind.i64 (wrap IntKind.i64 (wrap IntKind.i64 (s.1+1)*wrap IntKind.i64 (x.1.1+1))+s_1.1))).bind
 fun r=>some r).bind fun (ov_6:Int)=>(m66 ((s_1.1,s.1),(wrap IntKind.i64 (s_1.1+1),wrap IntKind.i64 (s.1+1)),r_8.1,r_8.2.1,r_8.2.2)).bind fun r
 => some (wrap IntKind.i64 (wrap IntKind.i64 (wrap IntKind.i64 (0+wrap IntKind.i64 (ov_4*r_9))+wrap IntKind.i64 (ov_5*r_10))+wrap IntKind.i64 (ov_6 *
 r)))).bind fun (ov_4:Int)=>(m42 (wrap IntKind.i64 (wrap IntKind.i64 (wrap IntKind.i64 (wrap IntKind.i64 (r_4.1*wrap IntKind.i64 (wrap IntKind.i64
 (r_6.2.1*r_8.2.2)-wrap IntKind.i64 (r_6.2.2*r_8.2.1)))-wrap IntKind.i64 (r_4.2.1*wrap IntKind.i64 (wrap IntKind.i64 (r_6.1*r_8.2.2)-wrap
 IntKind.i64 (r_6.2.2*r_8.1))))+wrap IntKind.i64 (r_4.2.2*wrap IntKind.i64 (wrap IntKind.i64 (r_6.1*r_8.2.1)-wrap IntKind.i64 (r_6.2.1*r_8.1)))) *
 wrap IntKind.i64 (wrap IntKind.i64 (wrap IntKind.i64 (wrap IntKind.i64 (ov_2*r_6.2.2)*r_8.2.2)+wrap IntKind.i64 (wrap IntKind.i64 (ov_3*r_4.2.2) *
 r_8.2.2))+wrap IntKind.i64 (wrap IntKind.i64 (ov_4*r_4.2.2)*r_6.2.2))),wrap IntKind.i64 (wrap IntKind.i64 (6*wrap IntKind.i64 (wrap IntKind.i64
 (r_4.2.2*r_6.2.2)*r_8.2.2))*wrap IntKind.i64 (wrap IntKind.i64 (r_4.2.2*r_6.2.2)*r_8.2.2)))).bind fun r_9=>(m67 ((s_2.2.1,s_2.2.2),r_9.1.1,
 r_9.1.2)).bind fun r=>some (Sum.inl (wrap IntKind.i64 (s_2.1+1),r.1.1,r.1.2)) else some (Sum.inr (s_2.2.1,s_2.2.2))) (2,o_2.1,o_2.2)).bind fun o =>
 some (Sum.inl (wrap IntKind.i64 (s_1.1+1),o.1,o.2)) else some (Sum.inr (s_1.2.1,s_1.2.2))) (0,s.2.1,s.2.2)).bind fun o=>some (Sum.inl (wrap
 IntKind.i64 (s.1+1),o.1,o.2)) else some (Sum.inr (s.2.1,s.2.2))) (0,r_2.1.1,r_2.1.2)).bind fun o=>some (o.1,o.2)).bind fun (ov:List UInt8×List
 UInt8)=>some ((ov_1.1,ov_1.2),(ov.1,ov.2),0)
theorem c33:SpecOK Tryz.prog 33 ⟨as33,rs33,m33⟩ :=
 fc (TabOK.drop tabs67OK [64]) [] an33 Tryz.f33 fun x=>by kernel_rfl
def tabs33:Tabs:=Tabs.add tabs67 33 ⟨as33,rs33,m33⟩
theorem tabs33OK:TabOK Tryz.prog tabs33:=TabOK.add tabs67OK c33 Tryz.call33
end
end Go.Proofs.YtdaaoecjdhipjaaGreatDoor
namespace Go.Proofs.YtdaaoecjdhipjaaGreatDoor
open Go Go.Abs Go.PE Go.Proofs
open Go.IntKind (wrap)
set_option maxRecDepth 100000
noncomputable section

/-! putlog/field.Above -/
def as35:List Ty:=[(.pair tI (.pair tI (.pair tL tL))),tI]
def rs35:List Ty:=[(.pair .str .str),(.pair .str .str),tI]
def an35:Ann:=.seq (.a) (.seq (.a) (.seq (.reg [] [] [.s [0] [],z0,.r,z0,z0,z0,.s [] [11],.s [] [12],.s [11] [11],.s [12] [12]] (.call [] [] (.seq (.a) (.seq (.reg [0,0,0,4,14,31,0,0,0,256,959,2047,4095,8191] (ra 0 14 ([])) [z0,.s [4] [],z0,.s [4] [],.k [7,8],.k [],z0,.s [4] [],z0,.s [4] [],.k [9,10],.k [],.s [5] [5],.s [6] [6]] (.kp [] ⟨[(10,.r (.c (.f 123 [] [.p 7 0,.p 8 0])))],[],[],[.box [.d (.d tL)],.box [.d (.d tI),.d (.d tI),.d (.d tL),.d (.d tL)]]⟩ (.seq (.a) (.a)) (.kp [30] ⟨[(11,.r (.s [.d (.d .str),.d (.d .str)]))],[],[],[]⟩ (.seq (.a) (.seq (.a) (.seq (.a) (.seq (.seq (.reg [] [] [.s [0] [],.r] (.call [] [] (.seq (.a) (.a)) (.a))) (.block (.call [] [] (.seq (.a) (.block (.loop ⟨[(9,.r (.c (.d (.d tI))))],(3::4::5::6::ra 10 39 ([])),[(11,.box [.d (.d .str),.d (.d .str)]),(14,.lp .ready)],[]⟩ [(.exit 0,⟨[],(3::4::5::6::ra 9 40 ([])),[(11,.box [.d (.d .str),.d (.d .str)]),(14,.lp .ready)],[]⟩)] (.seq (.a) (.seq (.a) (.seq (.block (.seq (.a) (.seq (.a) (.block (.loop ⟨[(14,.r (.c (.d (.d tI))))],(4::5::6::ra 15 33 ([])),[(11,.box [.d (.d .str),.d (.d .str)]),(14,.lp .ready)],[]⟩ [(.exit 2,⟨[],(4::5::6::ra 14 34 ([])),[(11,.box [.d (.d .str),.d (.d .str)]),(14,.lp .ready)],[]⟩)] (.seq (.a) (.seq (.a) (.seq (.block (.seq (.a) (.seq (.a) (.seq (.reg [] [] [z0,.s [15] [],z0,z0,z0,z0,.s [16] [],z0,.r,z0,z0,z0,.s [15] [],.s [16] [],z0,z0,z0,z0,z0,.r,z0,z0] (.call [30] [] (.seq (.a) (.join [(.norm,⟨[],(9::ra 18 96 ([])),[(11,.box [.d (.d .str),.d (.d .str)])],[]⟩)] (.block (.seq (.reg [0,0,2,7,0,0,32,127,0,0,512,2047,4095,8191] (ra 0 14 ([])) [.s [9] [],z0,.s [17] [],.k [],.s [9] [],z0,.s [17] [],.k [],.s [9] [],z0,.s [17] [],.k [],.s [] [18],z0] (.kp [] ⟨[(21,.r (.c (.d (.d tI))))],[],[],[]⟩ (.seq (.a) (.a)) (.kp [] ⟨[(25,.r (.c (.d (.d tI))))],[],[],[]⟩ (.seq (.a) (.a)) (.kp [] ⟨[(29,.r (.c (.d (.d tI))))],[],[],[]⟩ (.seq (.a) (.a)) (.a))))) (.seq (.a) (.block (.seq (.reg [0,1,3,0,15,31] (ra 0 6 ([])) [z0,.s [18] [],.s [18] [],.s [1] [],z0,z0] (.a)) (.cond (.reg [] [] [.s [12] [],.r] (.call [] [] (.seq (.a) (.a)) (.a))) (.seq (.reg [0,1,3,0,15,31] (ra 0 6 ([])) [z0,.s [18] [],.s [18] [],.s [1] [],z0,z0] (.a)) (.cond (.seq (.reg [] [] [.s [12] [],.r] (.call [] [] (.seq (.a) (.a)) (.a))) (.reg [0,0,0,4,12,30,62,0,0,256,768,1920,4094,0,8192,24576,0,65536,196608,516096,1040384,0,2097152,6291456,0,16777216,50331648,132120576,268427264,536870911] (ra 0 30 ([])) [.s [12] [],.s [1] [],z0,.s [18] [],.s [18] [],z0,z0,.s [1] [],z0,.s [18] [],.s [18] [],z0,z0,z0,.s [18] [],.s [18] [],z0,.s [18] [],.s [18] [],z0,z0,z0,.s [18] [],.s [18] [],z0,.s [18] [],.s [18] [],z0,z0,.r] (.call [] [] (.seq (.a) (.a)) (.a)))) (.seq (.reg [0,1,3,0,15,31] (ra 0 6 ([])) [z0,.s [18] [],.s [18] [],.s [1] [],z0,z0] (.a)) (.cond (.reg [0,0,2,6,0,30,0,64,192,0,960,2046,0,4096,12288,0,32768,98304,258048,520192,0,1048576,3145728,0,8388608,25165824,66060288,134213632,268435455] (ra 0 29 ([])) [.s [12] [],z0,.s [18] [],.s [18] [],.s [1] [],z0,z0,.s [18] [],.s [18] [],.s [1] [],z0,z0,z0,.s [18] [],.s [18] [],z0,.s [18] [],.s [18] [],z0,z0,z0,.s [18] [],.s [18] [],z0,.s [18] [],.s [18] [],z0,z0,.r] (.call [] [] (.seq (.a) (.a)) (.a))) (.a))))))))))))) (.gq z0 (.gq (.s [15] []) (.gq (.s [16] []) (.gq z0 (.gq z0 (.gq z0 (.gq z0 (.gq z0 (.gq (.r) (.call [30] [] (.seq (.a) (.join [(.norm,⟨[],(9::ra 18 96 ([])),[(11,.box [.d (.d .str),.d (.d .str)])],[]⟩)] (.block (.seq (.reg [0,0,2,7,0,0,32,127,0,0,512,2047,4095,8191] (ra 0 14 ([])) [.s [9] [],z0,.s [18] [],.k [],.s [9] [],z0,.s [18] [],.k [],.s [9] [],z0,.s [18] [],.k [],.s [] [19],z0] (.kp [] ⟨[(21,.r (.c (.d (.d tI))))],[],[],[]⟩ (.seq (.a) (.a)) (.kp [] ⟨[(25,.r (.c (.d (.d tI))))],[],[],[]⟩ (.seq (.a) (.a)) (.kp [] ⟨[(29,.r (.c (.d (.d tI))))],[],[],[]⟩ (.seq (.a) (.a)) (.a))))) (.seq (.a) (.block (.seq (.reg [0,1,3,0,15,31] (ra 0 6 ([])) [z0,.s [19] [],.s [19] [],.s [1] [],z0,z0] (.a)) (.cond (.reg [] [] [.s [12] [],.r] (.call [] [] (.seq (.a) (.a)) (.a))) (.seq (.reg [0,1,3,0,15,31] (ra 0 6 ([])) [z0,.s [19] [],.s [19] [],.s [1] [],z0,z0] (.a)) (.cond (.seq (.reg [] [] [.s [12] [],.r] (.call [] [] (.seq (.a) (.a)) (.a))) (.reg [0,0,0,4,12,30,62,0,0,256,768,1920,4094,0,8192,24576,0,65536,196608,516096,1040384,0,2097152,6291456,0,16777216,50331648,132120576,268427264,536870911] (ra 0 30 ([])) [.s [12] [],.s [1] [],z0,.s [19] [],.s [19] [],z0,z0,.s [1] [],z0,.s [19] [],.s [19] [],z0,z0,z0,.s [19] [],.s [19] [],z0,.s [19] [],.s [19] [],z0,z0,z0,.s [19] [],.s [19] [],z0,.s [19] [],.s [19] [],z0,z0,.r] (.call [] [] (.seq (.a) (.a)) (.a)))) (.seq (.reg [0,1,3,0,15,31] (ra 0 6 ([])) [z0,.s [19] [],.s [19] [],.s [1] [],z0,z0] (.a)) (.cond (.reg [0,0,2,6,0,30,0,64,192,0,960,2046,0,4096,12288,0,32768,98304,258048,520192,0,1048576,3145728,0,8388608,25165824,66060288,134213632,268435455] (ra 0 29 ([])) [.s [12] [],z0,.s [19] [],.s [19] [],.s [1] [],z0,z0,.s [19] [],.s [19] [],.s [1] [],z0,z0,z0,.s [19] [],.s [19] [],z0,.s [19] [],.s [19] [],z0,z0,z0,.s [19] [],.s [19] [],z0,.s [19] [],.s [19] [],z0,z0,.r] (.call [] [] (.seq (.a) (.a)) (.a))) (.a))))))))))))) (.gq z0 (.a) (.a))) (.a)) (.a)) (.a)) (.a)) (.a)) (.a)) (.a)) (.a)) (.a)))) (.a))))) (.a))))))))) (.a))))))) (.a)))) (.a))))) (.kp [] ⟨[(16,.r (.c (.f 123 [] [.p 9 0,.p 10 0])))],[],[],[.box [.d (.d tL)],.box [.d (.d tI),.d (.d tI),.d (.d tL),.d (.d tL)]]⟩ (.seq (.a) (.a)) (.kp [30] ⟨[(17,.r (.s [.d (.d .str),.d (.d .str)]))],[],[],[]⟩ (.seq (.a) (.seq (.a) (.seq (.a) (.seq (.seq (.reg [] [] [.s [0] [],.r] (.call [] [] (.seq (.a) (.a)) (.a))) (.block (.call [] [] (.seq (.a) (.block (.loop ⟨[(9,.r (.c (.d (.d tI))))],(3::4::5::6::ra 10 39 ([])),[(13,.box [.d (.d .str),.d (.d .str)]),(16,.lp .ready)],[]⟩ [(.exit 0,⟨[],(3::4::5::6::ra 9 40 ([])),[(13,.box [.d (.d .str),.d (.d .str)]),(16,.lp .ready)],[]⟩)] (.seq (.a) (.seq (.a) (.seq (.block (.seq (.a) (.seq (.a) (.block (.loop ⟨[(14,.r (.c (.d (.d tI))))],(4::5::6::ra 15 33 ([])),[(13,.box [.d (.d .str),.d (.d .str)]),(16,.lp .ready)],[]⟩ [(.exit 2,⟨[],(4::5::6::ra 14 34 ([])),[(13,.box [.d (.d .str),.d (.d .str)]),(16,.lp .ready)],[]⟩)] (.seq (.a) (.seq (.a) (.seq (.block (.seq (.a) (.seq (.a) (.seq (.reg [] [] [z0,.s [17] [],z0,z0,z0,z0,.s [18] [],z0,.r,z0,z0,z0,.s [17] [],.s [18] [],z0,z0,z0,z0,z0,.r,z0,z0] (.call [30] [] (.seq (.a) (.join [(.norm,⟨[],(9::ra 18 96 ([])),[(13,.box [.d (.d .str),.d (.d .str)])],[]⟩)] (.block (.seq (.reg [0,0,2,7,0,0,32,127,0,0,512,2047,4095,8191] (ra 0 14 ([])) [.s [11] [],z0,.s [19] [],.k [],.s [11] [],z0,.s [19] [],.k [],.s [11] [],z0,.s [19] [],.k [],.s [] [20],z0] (.kp [] ⟨[(21,.r (.c (.d (.d tI))))],[],[],[]⟩ (.seq (.a) (.a)) (.kp [] ⟨[(25,.r (.c (.d (.d tI))))],[],[],[]⟩ (.seq (.a) (.a)) (.kp [] ⟨[(29,.r (.c (.d (.d tI))))],[],[],[]⟩ (.seq (.a) (.a)) (.a))))) (.seq (.a) (.block (.seq (.reg [0,1,3,0,15,31] (ra 0 6 ([])) [z0,.s [20] [],.s [20] [],.s [1] [],z0,z0] (.a)) (.cond (.reg [] [] [.s [14] [],.r] (.call [] [] (.seq (.a) (.a)) (.a))) (.seq (.reg [0,1,3,0,15,31] (ra 0 6 ([])) [z0,.s [20] [],.s [20] [],.s [1] [],z0,z0] (.a)) (.cond (.seq (.reg [] [] [.s [14] [],.r] (.call [] [] (.seq (.a) (.a)) (.a))) (.reg [0,0,0,4,12,30,62,0,0,256,768,1920,4094,0,8192,24576,0,65536,196608,516096,1040384,0,2097152,6291456,0,16777216,50331648,132120576,268427264,536870911] (ra 0 30 ([])) [.s [14] [],.s [1] [],z0,.s [20] [],.s [20] [],z0,z0,.s [1] [],z0,.s [20] [],.s [20] [],z0,z0,z0,.s [20] [],.s [20] [],z0,.s [20] [],.s [20] [],z0,z0,z0,.s [20] [],.s [20] [],z0,.s [20] [],.s [20] [],z0,z0,.r] (.call [] [] (.seq (.a) (.a)) (.a)))) (.seq (.reg [0,1,3,0,15,31] (ra 0 6 ([])) [z0,.s [20] [],.s [20] [],.s [1] [],z0,z0] (.a)) (.cond (.reg [0,0,2,6,0,30,0,64,192,0,960,2046,0,4096,12288,0,32768,98304,258048,520192,0,1048576,3145728,0,8388608,25165824,66060288,134213632,268435455] (ra 0 29 ([])) [.s [14] [],z0,.s [20] [],.s [20] [],.s [1] [],z0,z0,.s [20] [],.s [20] [],.s [1] [],z0,z0,z0,.s [20] [],.s [20] [],z0,.s [20] [],.s [20] [],z0,z0,z0,.s [20] [],.s [20] [],z0,.s [20] [],.s [20] [],z0,z0,.r] (.call [] [] (.seq (.a) (.a)) (.a))) (.a))))))))))))) (.gq z0 (.gq (.s [17] []) (.gq (.s [18] []) (.gq z0 (.gq z0 (.gq z0 (.gq z0 (.gq z0 (.gq (.r) (.call [30] [] (.seq (.a) (.join [(.norm,⟨[],(9::ra 18 96 ([])),[(13,.box [.d (.d .str),.d (.d .str)])],[]⟩)] (.block (.seq (.reg [0,0,2,7,0,0,32,127,0,0,512,2047,4095,8191] (ra 0 14 ([])) [.s [11] [],z0,.s [20] [],.k [],.s [11] [],z0,.s [20] [],.k [],.s [11] [],z0,.s [20] [],.k [],.s [] [21],z0] (.kp [] ⟨[(21,.r (.c (.d (.d tI))))],[],[],[]⟩ (.seq (.a) (.a)) (.kp [] ⟨[(25,.r (.c (.d (.d tI))))],[],[],[]⟩ (.seq (.a) (.a)) (.kp [] ⟨[(29,.r (.c (.d (.d tI))))],[],[],[]⟩ (.seq (.a) (.a)) (.a))))) (.seq (.a) (.block (.seq (.reg [0,1,3,0,15,31] (ra 0 6 ([])) [z0,.s [21] [],.s [21] [],.s [1] [],z0,z0] (.a)) (.cond (.reg [] [] [.s [14] [],.r] (.call [] [] (.seq (.a) (.a)) (.a))) (.seq (.reg [0,1,3,0,15,31] (ra 0 6 ([])) [z0,.s [21] [],.s [21] [],.s [1] [],z0,z0] (.a)) (.cond (.seq (.reg [] [] [.s [14] [],.r] (.call [] [] (.seq (.a) (.a)) (.a))) (.reg [0,0,0,4,12,30,62,0,0,256,768,1920,4094,0,8192,24576,0,65536,196608,516096,1040384,0,2097152,6291456,0,16777216,50331648,132120576,268427264,536870911] (ra 0 30 ([])) [.s [14] [],.s [1] [],z0,.s [21] [],.s [21] [],z0,z0,.s [1] [],z0,.s [21] [],.s [21] [],z0,z0,z0,.s [21] [],.s [21] [],z0,.s [21] [],.s [21] [],z0,z0,z0,.s [21] [],.s [21] [],z0,.s [21] [],.s [21] [],z0,z0,.r] (.call [] [] (.seq (.a) (.a)) (.a)))) (.seq (.reg [0,1,3,0,15,31] (ra 0 6 ([])) [z0,.s [21] [],.s [21] [],.s [1] [],z0,z0] (.a)) (.cond (.reg [0,0,2,6,0,30,0,64,192,0,960,2046,0,4096,12288,0,32768,98304,258048,520192,0,1048576,3145728,0,8388608,25165824,66060288,134213632,268435455] (ra 0 29 ([])) [.s [14] [],z0,.s [21] [],.s [21] [],.s [1] [],z0,z0,.s [21] [],.s [21] [],.s [1] [],z0,z0,z0,.s [21] [],.s [21] [],z0,.s [21] [],.s [21] [],z0,z0,z0,.s [21] [],.s [21] [],z0,.s [21] [],.s [21] [],z0,z0,.r] (.call [] [] (.seq (.a) (.a)) (.a))) (.a))))))))))))) (.gq z0 (.a) (.a))) (.a)) (.a)) (.a)) (.a)) (.a)) (.a)) (.a)) (.a)) (.a)))) (.a))))) (.a))))))))) (.a))))))) (.a)))) (.a))))) (.a)))))) (.a))) (.a))) (.seq (.reg [0,0,1,7,15] [0,1,2,3,4] [.s [11] [],.s [12] [],.s [2] [2],.s [3] [3],z0] (.a)) (.a))))
def m35:((Int×Int×List Int×List Int)×Int)→Option ((List UInt8×List UInt8)×(List UInt8×List UInt8)×Int) :=
 fun x=>(m17 (x.1.1,x.1.2.1,x.1.2.2.1,x.1.2.2.2)).bind fun r=>(bif PE.notM (PE.notM r) then m51 (x.2,0,100) else some false).bind fun r_1=>bif PE.orM
 (PE.notM r) (PE.notM r_1) then some (([],[]),([],[]),250) else ((m42 (0,1)).bind fun r_2=>(loopM (fun (s:Int×List UInt8×List UInt8)=>bif ltM
 s.1 x.1.2.1 then (loopM (fun (s_1:Int×List UInt8×List UInt8)=>bif ltM s_1.1 x.1.1 then (((idxM x.1.2.2.1 (wrap IntKind.i64 (wrap IntKind.i64 (s.1 *
 wrap IntKind.i64 (x.1.1+1))+s_1.1))).bind fun r=>some r).bind fun (ov:Int)=>((idxM x.1.2.2.1 (wrap IntKind.i64 (wrap IntKind.i64 (s.1*wrap
 IntKind.i64 (x.1.1+1))+wrap IntKind.i64 (s_1.1+1)))).bind fun r=>some r).bind fun (ov_1:Int)=>((idxM x.1.2.2.1 (wrap IntKind.i64 (wrap IntKind.i64
 (wrap IntKind.i64 (s.1+1)*wrap IntKind.i64 (x.1.1+1))+wrap IntKind.i64 (s_1.1+1)))).bind fun r=>some r).bind fun (ov_2:Int)=>(sortI [ov,ov_1,
 ov_2]).bind fun r_3=>(chkM 0 (lenM r_3)).bind fun r_4=>(idxM r_3 0).bind fun r_5=>bif ltM x.2 r_5 then (m42 (1,2)).bind fun r_6=>(m67 ((s_1.2.1,
 s_1.2.2),r_6.1.1,r_6.1.2)).bind fun r=>some (r.1.1,r.1.2) else (chkM 1 (lenM r_3)).bind fun r_6=>(idxM r_3 1).bind fun r_7=>bif ltM x.2 r_7 then (m42
 (1,2)).bind fun r_8=>(m67 ((s_1.2.1,s_1.2.2),r_8.1.1,r_8.1.2)).bind fun r_9=>(chkM 0 (lenM r_3)).bind fun r_10=>(idxM r_3 0).bind fun r_11=>(chkM
 0 (lenM r_3)).bind fun r_12=>(idxM r_3 0).bind fun r_13=>(chkM 1 (lenM r_3)).bind fun r_14=>(idxM r_3 1).bind fun r_15=>(chkM 0 (lenM r_3)).bind fun
 r_16=>(idxM r_3 0).bind fun r_17=>(chkM 2 (lenM r_3)).bind fun r_18=>(idxM r_3 2).bind fun r_19=>(chkM 0 (lenM r_3)).bind fun r_20=>(idxM r_3
 0).bind fun r_21=>(m42 (wrap IntKind.i64 (wrap IntKind.i64 (negM (wrap IntKind.i64 (x.2-r_11)))*wrap IntKind.i64 (x.2-r_13)),wrap IntKind.i64 (wrap
 IntKind.i64 (2*wrap IntKind.i64 (r_15-r_17))*wrap IntKind.i64 (r_19-r_21)))).bind fun r_22=>(m67 ((r_9.1.1,r_9.1.2),r_22.1.1,r_22.1.2)).bind fun
 r=>some (r.1.1,r.1.2) else (chkM 2 (lenM r_3)).bind fun r_8=>(idxM r_3 2).bind fun r_9=>bif ltM x.2 r_9 then (chkM 2 (lenM r_3)).bind fun r_10=>(idxM
 r_3 2).bind fun r_11=>(chkM 2 (lenM r_3)).bind fun r_12=>(idxM r_3 2).bind fun r_13=>(chkM 2 (lenM r_3)).bind fun r_14=>(idxM r_3 2).bind fun r_15 =>
 (chkM 0 (lenM r_3)).bind fun r_16=>(idxM r_3 0).bind fun r_17=>(chkM 2 (lenM r_3)).bind fun r_18=>(idxM r_3 2).bind fun r_19=>(chkM 1 (lenM r_3)).bind
 fun r_20=>(idxM r_3 1).bind fun r_21=>(m42 (wrap IntKind.i64 (wrap IntKind.i64 (r_11-x.2)*wrap IntKind.i64 (r_13-x.2)),wrap IntKind.i64 (wrap
 IntKind.i64 (2*wrap IntKind.i64 (r_15-r_17))*wrap IntKind.i64 (r_19-r_21)))).bind fun r_22=>(m67 ((s_1.2.1,s_1.2.2),r_22.1.1,r_22.1.2)).bind fun
 r=>some (r.1.1,r.1.2) else some (s_1.2.1,s_1.2.2)).bind fun o=>(((idxM x.1.2.2.1 (wrap IntKind.i64 (wrap IntKind.i64 (s.1*wrap IntKind.i64 (x.1.1 +
 1))+s_1.1))).bind fun r=>some r).bind fun (ov:Int)=>((idxM x.1.2.2.1 (wrap IntKind.i64 (wrap IntKind.i64 (wrap IntKind.i64 (s.1+1)*wrap
 IntKind.i64 (x.1.1+1))+wrap IntKind.i64 (s_1.1+1)))).bind fun r=>some r).bind fun (ov_1:Int)=>((idxM x.1.2.2.1 (wrap IntKind.i64 (wrap IntKind.i64
 (wrap IntKind.i64 (s.1+1)*wrap IntKind.i64 (x.1.1+1))+s_1.1))).bind fun r=>some r).bind fun (ov_2:Int)=>(sortI [ov,ov_1,ov_2]).bind fun r_3 =>
 (chkM 0 (lenM r_3)).bind fun r_4=>(idxM r_3 0).bind fun r_5=>bif ltM x.2 r_5 then (m42 (1,2)).bind fun r_6=>(m67 ((o.1,o.2),r_6.1.1,r_6.1.2)).bind
 fun r=>some (r.1.1,r.1.2) else (chkM 1 (lenM r_3)).bind fun r_6=>(idxM r_3 1).bind fun r_7=>bif ltM x.2 r_7 then (m42 (1,2)).bind fun r_8=>(m67
 ((o.1,o.2),r_8.1.1,r_8.1.2)).bind fun r_9=>(chkM 0 (lenM r_3)).bind fun r_10=>(idxM r_3 0).bind fun r_11=>(chkM 0 (lenM r_3)).bind fun r_12=>(idxM
 r_3 0).bind fun r_13=>(chkM 1 (lenM r_3)).bind fun r_14=>(idxM r_3 1).bind fun r_15=>(chkM 0 (lenM r_3)).bind fun r_16=>(idxM r_3 0).bind fun r_17 =>
 (chkM 2 (lenM r_3)).bind fun r_18=>(idxM r_3 2).bind fun r_19=>(chkM 0 (lenM r_3)).bind fun r_20=>(idxM r_3 0).bind fun r_21=>(m42 (wrap IntKind.i64
 (wrap IntKind.i64 (negM (wrap IntKind.i64 (x.2-r_11)))*wrap IntKind.i64 (x.2-r_13)),wrap IntKind.i64 (wrap IntKind.i64 (2*wrap IntKind.i64 (r_15 -
 r_17))*wrap IntKind.i64 (r_19-r_21)))).bind fun r_22=>(m67 ((r_9.1.1,r_9.1.2),r_22.1.1,r_22.1.2)).bind fun r=>some (r.1.1,r.1.2) else (chkM 2
 (lenM r_3)).bind fun r_8=>(idxM r_3 2).bind fun r_9=>bif ltM x.2 r_9 then (chkM 2 (lenM r_3)).bind fun r_10=>(idxM r_3 2).bind fun r_11=>(chkM 2 (lenM
 r_3)).bind fun r_12=>(idxM r_3 2).bind fun r_13=>(chkM 2 (lenM r_3)).bind fun r_14=>(idxM r_3 2).bind fun r_15=>(chkM 0 (lenM r_3)).bind fun r_16 =>
 (idxM r_3 0).bind fun r_17=>(chkM 2 (lenM r_3)).bind fun r_18=>(idxM r_3 2).bind fun r_19=>(chkM 1 (lenM r_3)).bind fun r_20=>(idxM r_3 1).bind fun
 r_21=>(m42 (wrap IntKind.i64 (wrap IntKind.i64 (r_11-x.2)*wrap IntKind.i64 (r_13-x.2)),wrap IntKind.i64 (wrap IntKind.i64 (2*wrap IntKind.i64 (r_15
 - r_17))*wrap IntKind.i64 (r_19-r_21)))).bind fun r_22=>(m67 ((o.1,o.2),r_22.1.1,r_22.1.2)).bind fun r=>some (r.1.1,r.1.2) else some (o.1,
 o.2)).bind fun o=>some (Sum.inl (wrap IntKind.i64 (s_1.1+1),o.1,o.2)) else some (Sum.inr (s_1.2.1,s_1.2.2))) (0,s.2.1,s.2.2)).bind fun o=>some
 (Sum.inl (wrap IntKind.i64 (s.1+1),o.1,o.2)) else some (Sum.inr (s.2.1,s.2.2))) (0,r_2.1.1,r_2.1.2)).bind fun o=>some (o.1,o.2)).bind fun (ov:List
 UInt8×List UInt8)=>((m42 (0,1)).bind fun r_2=>(loopM (fun (s:Int×List UInt8×List UInt8)=>bif ltM s.1 x.1.2.1 then (loopM (fun (s_1:Int×List
 UInt8×List UInt8)=>bif ltM s_1.1 x.1.1 then (((idxM x.1.2.2.2 (wrap IntKind.i64 (wrap IntKind.i64 (s.1*wrap IntKind.i64 (x.1.1+1))+s_1.1))).bind fun
 r=>some r).bind fun (ov_1:Int)=>((idxM x.1.2.2.2 (wrap IntKind.i64 (wrap IntKind.i64 (s.1*wrap IntKind.i64 (x.1.1+1))+wrap IntKind.i64 (s_1.1 +
 1)))).bind fun r=>some r).bind fun (ov_2:Int)=>((idxM x.1.2.2.2 (wrap IntKind.i64 (wrap IntKind.i64 (wrap IntKind.i64 (s.1+1)*wrap IntKind.i64
 (x.1.1+1))+wrap IntKind.i64 (s_1.1+1)))).bind fun r=>some r).bind fun (ov_3:Int)=>(sortI [ov_1,ov_2,ov_3]).bind fun r_3=>(chkM 0 (lenM
 r_3)).bind fun r_4=>(idxM r_3 0).bind fun r_5=>bif ltM x.2 r_5 then (m42 (1,2)).bind fun r_6=>(m67 ((s_1.2.1,s_1.2.2),r_6.1.1,r_6.1.2)).bind fun r
 => some (r.1.1,r.1.2) else (chkM 1 (lenM r_3)).bind fun r_6=>(idxM r_3 1).bind fun r_7=>bif ltM x.2 r_7 then (m42 (1,2)).bind fun r_8=>(m67 ((s_1.2.1,
 s_1.2.2),r_8.1.1,r_8.1.2)).bind fun r_9=>(chkM 0 (lenM r_3)).bind fun r_10=>(idxM r_3 0).bind fun r_11=>(chkM 0 (lenM r_3)).bind fun r_12=>(idxM r_3
 0).bind fun r_13=>(chkM 1 (lenM r_3)).bind fun r_14=>(idxM r_3 1).bind fun r_15=>(chkM 0 (lenM r_3)).bind fun r_16=>(idxM r_3 0).bind fun r_17 =>
 (chkM 2 (lenM r_3)).bind fun r_18=>(idxM r_3 2).bind fun r_19=>(chkM 0 (lenM r_3)).bind fun r_20=>(idxM r_3 0).bind fun r_21=>(m42 (wrap IntKind.i64
 (wrap IntKind.i64 (negM (wrap IntKind.i64 (x.2-r_11)))*wrap IntKind.i64 (x.2-r_13)),wrap IntKind.i64 (wrap IntKind.i64 (2*wrap IntKind.i64 (r_15 -
 r_17))*wrap IntKind.i64 (r_19-r_21)))).bind fun r_22=>(m67 ((r_9.1.1,r_9.1.2),r_22.1.1,r_22.1.2)).bind fun r=>some (r.1.1,r.1.2) else (chkM 2
 (lenM r_3)).bind fun r_8=>(idxM r_3 2).bind fun r_9=>bif ltM x.2 r_9 then (chkM 2 (lenM r_3)).bind fun r_10=>(idxM r_3 2).bind fun r_11=>(chkM 2 (lenM
 r_3)).bind fun r_12=>(idxM r_3 2).bind fun r_13=>(chkM 2 (lenM r_3)).bind fun r_14=>(idxM r_3 2).bind fun r_15=>(chkM 0 (lenM r_3)).bind fun r_16 =>
 (idxM r_3 0).bind fun r_17=>(chkM 2 (lenM r_3)).bind fun r_18=>(idxM r_3 2).bind fun r_19=>(chkM 1 (lenM r_3)).bind fun r_20=>(idxM r_3 1).bind fun
 r_21=>(m42 (wrap IntKind.i64 (wrap IntKind.i64 (r_11-x.2)*wrap IntKind.i64 (r_13-x.2)),wrap IntKind.i64 (wrap IntKind.i64 (2*wrap IntKind.i64 (r_15
 - r_17))*wrap IntKind.i64 (r_19-r_21)))).bind fun r_22=>(m67 ((s_1.2.1,s_1.2.2),r_22.1.1,r_22.1.2)).bind fun r=>some (r.1.1,r.1.2) else some
 (s_1.2.1,s_1.2.2)).bind fun o=>(((idxM x.1.2.2.2 (wrap IntKind.i64 (wrap IntKind.i64 (s.1*wrap IntKind.i64 (x.1.1+1))+s_1.1))).bind fun r=>some
 r).bind fun (ov_1:Int)=>((idxM x.1.2.2.2 (wrap IntKind.i64 (wrap IntKind.i64 (wrap IntKind.i64 (s.1+1)*wrap IntKind.i64 (x.1.1+1))+wrap
 IntKind.i64 (s_1.1+1)))).bind fun r=>some r).bind fun (ov_2:Int)=>((idxM x.1.2.2.2 (wrap IntKind.i64 (wrap IntKind.i64 (wrap IntKind.i64 (s.1+1) *
 wrap IntKind.i64 (x.1.1+1))+s_1.1))).bind fun r=>some r).bind fun (ov_3:Int)=>(sortI [ov_1,ov_2,ov_3]).bind fun r_3=>(chkM 0 (lenM r_3)).bind
 fun r_4=>(idxM r_3 0).bind fun r_5=>bif ltM x.2 r_5 then (m42 (1,2)).bind fun r_6=>(m67 ((o.1,o.2),r_6.1.1,r_6.1.2)).bind fun r=>some (r.1.1,
 r.1.2) else (chkM 1 (lenM r_3)).bind fun r_6=>(idxM r_3 1).bind fun r_7=>bif ltM x.2 r_7 then (m42 (1,2)).bind fun r_8=>(m67 ((o.1,o.2),r_8.1.1,
 r_8.1.2)).bind fun r_9=>(chkM 0 (lenM r_3)).bind fun r_10=>(idxM r_3 0).bind fun r_11=>(chkM 0 (lenM r_3)).bind fun r_12=>(idxM r_3 0).bind fun r_13
 => (chkM 1 (lenM r_3)).bind fun r_14=>(idxM r_3 1).bind fun r_15=>(chkM 0 (lenM r_3)).bind fun r_16=>(idxM r_3 0).bind fun r_17=>(chkM 2 (lenM
 r_3)).bind fun r_18=>(idxM r_3 2).bind fun r_19=>(chkM 0 (lenM r_3)).bind fun r_20=>(idxM r_3 0).bind fun r_21=>(m42 (wrap IntKind.i64 (wrap
 IntKind.i64 (negM (wrap IntKind.i64 (x.2-r_11)))*wrap IntKind.i64 (x.2-r_13)),wrap IntKind.i64 (wrap IntKind.i64 (2*wrap IntKind.i64 (r_15-r_17)) *
 wrap IntKind.i64 (r_19-r_21)))).bind fun r_22=>(m67 ((r_9.1.1,r_9.1.2),r_22.1.1,r_22.1.2)).bind fun r=>some (r.1.1,r.1.2) else (chkM 2 (lenM
 r_3)).bind fun r_8=>(idxM r_3 2).bind fun r_9=>bif ltM x.2 r_9 then (chkM 2 (lenM r_3)).bind fun r_10=>(idxM r_3 2).bind fun r_11=>(chkM 2 (lenM
 r_3)).bind fun r_12=>(idxM r_3 2).bind fun r_13=>(chkM 2 (lenM r_3)).bind fun r_14=>(idxM r_3 2).bind fun r_15=>(chkM 0 (lenM r_3)).bind fun r_16 =>
 (idxM r_3 0).bind fun r_17=>(chkM 2 (lenM r_3)).bind fun r_18=>(idxM r_3 2).bind fun r_19=>(chkM 1 (lenM r_3)).bind fun r_20=>(idxM r_3 1).bind fun
 r_21=>(m42 (wrap IntKind.i64 (wrap IntKind.i64 (r_11-x.2)*wrap IntKind.i64 (r_13-x.2)),wrap IntKind.i64 (wrap IntKind.i64 (2*wrap IntKind.i64 (r_15
 - r_17))*wrap IntKind.i64 (r_19-r_21)))).bind fun r_22=>(m67 ((o.1,o.2),r_22.1.1,r_22.1.2)).bind fun r=>some (r.1.1,r.1.2) else some (o.1,
 o.2)).bind fun o=>some (Sum.inl (wrap IntKind.i64 (s_1.1+1),o.1,o.2)) else some (Sum.inr (s_1.2.1,s_1.2.2))) (0,s.2.1,s.2.2)).bind fun o=>some
 (Sum.inl (wrap IntKind.i64 (s.1+1),o.1,o.2)) else some (Sum.inr (s.2.1,s.2.2))) (0,r_2.1.1,r_2.1.2)).bind fun o=>some (o.1,o.2)).bind fun (ov_1 :
 List UInt8×List UInt8)=>some ((ov.1,ov.2),(ov_1.1,ov_1.2),0)
theorem c35:SpecOK Tryz.prog 35 ⟨as35,rs35,m35⟩ :=
 fc tabs33OK [] an35 Tryz.f35 fun x=>by kernel_rfl
def tabs35:Tabs:=Tabs.add tabs33 35 ⟨as35,rs35,m35⟩
theorem tabs35OK:TabOK Tryz.prog tabs35:=TabOK.add tabs33OK c35 Tryz.call35

/-! putlog/field.made -/
def as55:List Ty:=[(.pair tI (.pair tI (.pair tL tL)))]
def rs55:List Ty:=[(.pair tI (.pair tI (.pair tL tL))),tI]
def an55:Ann:=.a
def m55:(Int×Int×List Int×List Int)→Option ((Int×Int×List Int×List Int)×Int) :=
 fun x=>(m17 (x.1,x.2.1,x.2.2.1,x.2.2.2)).bind fun r=>bif PE.notM r then some ((0,0,[],[]),250) else some ((x.1,x.2.1,x.2.2.1,x.2.2.2),0)
theorem c55:SpecOK Tryz.prog 55 ⟨as55,rs55,m55⟩ :=
 fc tabs35OK [] an55 Tryz.f55 fun x=>by kernel_rfl
def tabs55:Tabs:=Tabs.add tabs35 55 ⟨as55,rs55,m55⟩
theorem tabs55OK:TabOK Tryz.prog tabs55:=TabOK.add tabs35OK c55 Tryz.call55

/-! putlog/field.Refine -/
def as25:List Ty:=[(.pair tI (.pair tI (.pair tL tL)))]
def rs25:List Ty:=[(.pair tI (.pair tI (.pair tL tL))),tI]
def an25:Ann:=.seq (.a) (.seq (.a) (.seq (.a) (.seq (.reg [] [] [.s [0] [],z0,.r,z0,z0,z0,z0,.s [2,6] [2],z0,.s [2,9] [2]] (.call [] [] (.seq (.a) (.seq (.reg [0,0,0,4,14,31,0,0,0,256,959,2047,4095,8191] (ra 0 14 ([])) [z0,.s [3] [],z0,.s [3] [],.k [4,5],.k [6],z0,.s [3] [],z0,.s [3] [],.k [7,8],.k [9],z0,z0] (.kp [] ⟨[(10,.r (.c (.f 123 [] [.p 4 0,.p 5 0])))],[],[],[.box [.d (.d tL)],.box [.d (.d tI),.d (.d tI),.d (.d tL),.d (.d tL)]]⟩ (.seq (.a) (.a)) (.kp [] ⟨[(11,.r (.c (.h 6)))],[],[],[.arr tI]⟩ (.seq (.a) (.seq (.a) (.seq (.seq (.a) (.block (.loop ⟨[(4,.r (.c (.h 6))),(10,.r (.c (.d (.d tI))))],(5::6::ra 11 30 ([])),[],[.arr tI]⟩ [(.exit 0,⟨[(4,.r (.c (.h 6)))],(5::6::ra 10 31 ([])),[],[.arr tI]⟩)] (.seq (.a) (.seq (.a) (.seq (.block (.seq (.a) (.seq (.a) (.block (.loop ⟨[(4,.r (.c (.h 7))),(16,.r (.c (.d (.d tI))))],(6::ra 17 23 ([])),[(6,.gone)],[.arr tI]⟩ [(.exit 2,⟨[(4,.r (.c (.h 7)))],(6::ra 16 24 ([])),[(6,.gone)],[.arr tI]⟩)] (.seq (.a) (.seq (.a) (.seq (.block (.seq (.a) (.reg [] [] [z0,z0,z0,z0,z0,z0,z0,.r,z0,z0,z0,z0,z0,z0,z0,z0,.r,z0,z0,.s [7] [10,7],z0] (.call [] [] (.seq (.a) (.a)) (.call [] [] (.seq (.a) (.a)) (.a)))))) (.a))))))))) (.a))))))) (.a)))) (.kp [] ⟨[(16,.r (.c (.f 123 [] [.p 7 0,.p 8 0])))],[],[],[.box [.d (.d tL)],.box [.d (.d tI),.d (.d tI),.d (.d tL),.d (.d tL)]]⟩ (.seq (.a) (.a)) (.kp [] ⟨[(17,.r (.c (.h 9)))],[],[],[.arr tI]⟩ (.seq (.a) (.seq (.a) (.seq (.seq (.a) (.block (.loop ⟨[(4,.r (.c (.h 9))),(10,.r (.c (.d (.d tI))))],(5::6::ra 11 30 ([])),[],[.arr tI]⟩ [(.exit 0,⟨[(4,.r (.c (.h 9)))],(5::6::ra 10 31 ([])),[],[.arr tI]⟩)] (.seq (.a) (.seq (.a) (.seq (.block (.seq (.a) (.seq (.a) (.block (.loop ⟨[(4,.r (.c (.h 10))),(16,.r (.c (.d (.d tI))))],(6::ra 17 23 ([])),[(9,.gone)],[.arr tI]⟩ [(.exit 2,⟨[(4,.r (.c (.h 10)))],(6::ra 16 24 ([])),[(9,.gone)],[.arr tI]⟩)] (.seq (.a) (.seq (.a) (.seq (.block (.seq (.a) (.reg [] [] [z0,z0,z0,z0,z0,z0,z0,.r,z0,z0,z0,z0,z0,z0,z0,z0,.r,z0,z0,.s [10] [13,10],z0] (.call [] [] (.seq (.a) (.a)) (.call [] [] (.seq (.a) (.a)) (.a)))))) (.a))))))))) (.a))))))) (.a)))) (.a)))))) (.a))) (.a))) (.a))))
def m25:(Int×Int×List Int×List Int)→Option ((Int×Int×List Int×List Int)×Int) :=
 fun x=>(m17 (x.1,x.2.1,x.2.2.1,x.2.2.2)).bind fun r=>bif PE.notM r then some ((0,0,[],[]),250) else ((loopM (fun (s:Int×List Int)=>bif ltM s.1
 (wrap IntKind.i64 (wrap IntKind.i64 (2*x.2.1)+1)) then (loopM (fun (s_1:Int×List Int)=>bif ltM s_1.1 (wrap IntKind.i64 (wrap IntKind.i64 (2*x.1) +
 1)) then (divM IntKind.i64 s_1.1 2).bind fun r_1=>(divM IntKind.i64 s.1 2).bind fun r_2=>(idxM x.2.2.1 (wrap IntKind.i64 (wrap IntKind.i64 (r_2*wrap
 IntKind.i64 (x.1+1))+r_1))).bind fun r_3=>(divM IntKind.i64 (wrap IntKind.i64 (s_1.1+1)) 2).bind fun r_4=>(divM IntKind.i64 (wrap IntKind.i64 (s.1 +
 1)) 2).bind fun r_5=>(idxM x.2.2.1 (wrap IntKind.i64 (wrap IntKind.i64 (r_5*wrap IntKind.i64 (x.1+1))+r_4))).bind fun r_6=>(appM (nat_lit 8) s_1.2
 [wrap IntKind.i64 (r_3+r_6)]).bind fun r=>some (Sum.inl (wrap IntKind.i64 (s_1.1+1),r)) else some (Sum.inr s_1.2)) (0,s.2)).bind fun o=>some
 (Sum.inl (wrap IntKind.i64 (s.1+1),o)) else some (Sum.inr s.2)) (0,[])).bind fun o=>some o).bind fun (ov:List Int)=>((loopM (fun (s:Int×List
 Int)=>bif ltM s.1 (wrap IntKind.i64 (wrap IntKind.i64 (2*x.2.1)+1)) then (loopM (fun (s_1:Int×List Int)=>bif ltM s_1.1 (wrap IntKind.i64 (wrap
 IntKind.i64 (2*x.1)+1)) then (divM IntKind.i64 s_1.1 2).bind fun r_1=>(divM IntKind.i64 s.1 2).bind fun r_2=>(idxM x.2.2.2 (wrap IntKind.i64 (wrap
 IntKind.i64 (r_2*wrap IntKind.i64 (x.1+1))+r_1))).bind fun r_3=>(divM IntKind.i64 (wrap IntKind.i64 (s_1.1+1)) 2).bind fun r_4=>(divM IntKind.i64
 (wrap IntKind.i64 (s.1+1)) 2).bind fun r_5=>(idxM x.2.2.2 (wrap IntKind.i64 (wrap IntKind.i64 (r_5*wrap IntKind.i64 (x.1+1))+r_4))).bind fun r_6 =>
 (appM (nat_lit 8) s_1.2 [wrap IntKind.i64 (r_3+r_6)]).bind fun r=>some (Sum.inl (wrap IntKind.i64 (s_1.1+1),r)) else some (Sum.inr s_1.2)) (0,
 s.2)).bind fun o=>some (Sum.inl (wrap IntKind.i64 (s.1+1),o)) else some (Sum.inr s.2)) (0,[])).bind fun o=>some o).bind fun (ov_1:List Int)=>(m55
 (wrap IntKind.i64 (2*x.1),wrap IntKind.i64 (2*x.2.1),ov,ov_1)).bind fun r=>some ((r.1.1,r.1.2.1,r.1.2.2.1,r.1.2.2.2),r.2)
theorem c25:SpecOK Tryz.prog 25 ⟨as25,rs25,m25⟩ :=
 fc tabs55OK [] an25 Tryz.f25 fun x=>by kernel_rfl
def tabs25:Tabs:=Tabs.add tabs55 25 ⟨as25,rs25,m25⟩
theorem tabs25OK:TabOK Tryz.prog tabs25:=TabOK.add tabs55OK c25 Tryz.call25

/-! putlog/field.Add -/
def as27:List Ty:=[(.pair tI (.pair tI (.pair tL tL))),(.pair tI (.pair tI (.pair tL tL)))]
def rs27:List Ty:=[(.pair tI (.pair tI (.pair tL tL))),tI]
def an27:Ann:=.seq (.a) (.seq (.a) (.seq (.reg [0,1,0,4,0,16,48,0,128,496,1023,0,4095] (ra 0 13 ([])) [z0,.s [0] [],z0,.s [0] [],z0,.s [0] [],.s [] [3],z0,.s [0] [],.s [] [4],z0,.s [] [5],.s [5,3,4] [5]] (.a)) (.seq (.seq (.a) (.block (.loop ⟨[(45,.r (.c (.d (.d tI))))],(7::ra 46 27 ([])),[(3,.arr tI),(4,.arr tI)],[]⟩ [(.exit 0,⟨[],(7::ra 45 28 ([])),[(3,.arr tI),(4,.arr tI)],[]⟩)] (.seq (.a) (.seq (.a) (.seq (.block (.seq (.a) (.seq (.reg [0,1,0,7,15,0,32,0,224,480,1023,2047,4095] (ra 0 13 ([])) (z0::.s [5] []::z0::.s [3] []::.s [3] []::z0::.s [1] []::za 4 (.s [3] []::.s [3] [3]::[])) (.a)) (.reg [0,1,0,7,15,0,32,0,224,480,1023,2047,4095] (ra 0 13 ([])) (z0::.s [5] []::z0::.s [4] []::.s [4] []::z0::.s [1] []::za 4 (.s [4] []::.s [4] [4]::[])) (.a))))) (.a))))))) (.a))))
def m27:((Int×Int×List Int×List Int)×Int×Int×List Int×List Int)→Option ((Int×Int×List Int×List Int)×Int) :=
 fun x=>(m17 (x.1.1,x.1.2.1,x.1.2.2.1,x.1.2.2.2)).bind fun r=>(bif PE.notM (PE.notM r) then m17 (x.2.1,x.2.2.1,x.2.2.2.1,x.2.2.2.2) else some
 false).bind fun r_1=>bif PE.orM (PE.orM (PE.orM (PE.notM r) (PE.notM r_1)) (PE.notM (eqM x.1.1 x.2.1))) (PE.notM (eqM x.1.2.1 x.2.2.1)) then some ((0,0,
 [],[]),250) else (mo54 x.1.2.2.1).bind fun r_2=>(mo54 x.1.2.2.2).bind fun r_3=>(loopM (fun (s:Int×List Int×List Int)=>bif ltM s.1 (lenM r_2)
 then (chkM s.1 (lenM s.2.1)).bind fun r_4=>(idxM s.2.1 s.1).bind fun r_5=>(idxM x.2.2.2.1 s.1).bind fun r_6=>(chkM s.1 (lenM s.2.1)).bind fun r_7 =>
 (setM s.2.1 s.1 fun (x:Int)=>some (wrap IntKind.i64 (r_5+r_6))).bind fun r_8=>(chkM s.1 (lenM s.2.2)).bind fun r_9=>(idxM s.2.2 s.1).bind fun r_10
 => (idxM x.2.2.2.2 s.1).bind fun r_11=>(chkM s.1 (lenM s.2.2)).bind fun r_12=>(setM s.2.2 s.1 fun (x:Int)=>some (wrap IntKind.i64 (r_10+r_11))).bind
 fun r=>some (Sum.inl (wrap IntKind.i64 (s.1+1),r_8,r)) else some (Sum.inr (s.2.1,s.2.2))) (0,r_2,r_3)).bind fun o=>(m55 (x.1.1,x.1.2.1,o.1,
 o.2)).bind fun r=>some ((r.1.1,r.1.2.1,r.1.2.2.1,r.1.2.2.2),r.2)
theorem c27:SpecOK Tryz.prog 27 ⟨as27,rs27,m27⟩ :=
 fc (TabOK.drop tabs25OK [54]) [] an27 Tryz.f27 fun x=>by kernel_rfl
def tabs27:Tabs:=Tabs.add tabs25 27 ⟨as27,rs27,m27⟩
theorem tabs27OK:TabOK Tryz.prog tabs27:=TabOK.add tabs25OK c27 Tryz.call27

/-! putlog/field.Scale -/
def as22:List Ty:=[(.pair tI (.pair tI (.pair tL tL))),tI]
def rs22:List Ty:=[(.pair tI (.pair tI (.pair tL tL))),tI]
def an22:Ann:=.seq (.a) (.seq (.a) (.seq (.reg [0,1,0,4,0,16,48,0,128,496,1023,0,4095] (ra 0 13 ([])) [z0,.s [0] [],z0,.s [0] [],z0,.s [0] [],.s [] [2],z0,.s [0] [],.s [] [3],z0,.s [] [4],.s [4,2,3] [4]] (.a)) (.seq (.seq (.a) (.block (.loop ⟨[(31,.r (.c (.d (.d tI))))],(7::ra 32 19 ([])),[(2,.arr tI),(3,.arr tI)],[]⟩ [(.exit 0,⟨[],(7::ra 31 20 ([])),[(2,.arr tI),(3,.arr tI)],[]⟩)] (.a)))) (.a))))
def m22:((Int×Int×List Int×List Int)×Int)→Option ((Int×Int×List Int×List Int)×Int) :=
 fun x=>(m17 (x.1.1,x.1.2.1,x.1.2.2.1,x.1.2.2.2)).bind fun r=>(bif PE.notM (PE.notM r) then m51 (x.2,0,100) else some false).bind fun r_1=>bif PE.orM
 (PE.notM r) (PE.notM r_1) then some ((0,0,[],[]),250) else (mo54 x.1.2.2.1).bind fun r_2=>(mo54 x.1.2.2.2).bind fun r_3=>(loopM (fun (s:Int×List
 Int×List Int)=>bif ltM s.1 (lenM r_2) then (chkM s.1 (lenM s.2.1)).bind fun r_4=>(idxM s.2.1 s.1).bind fun r_5=>(chkM s.1 (lenM s.2.1)).bind fun r_6
 => (setM s.2.1 s.1 fun (x_1:Int)=>some (wrap IntKind.i64 (r_5*x.2))).bind fun r_7=>(chkM s.1 (lenM s.2.2)).bind fun r_8=>(idxM s.2.2 s.1).bind fun
 r_9=>(chkM s.1 (lenM s.2.2)).bind fun r_10=>(setM s.2.2 s.1 fun (x_1:Int)=>some (wrap IntKind.i64 (r_9*x.2))).bind fun r=>some (Sum.inl (wrap
 IntKind.i64 (s.1+1),r_7,r)) else some (Sum.inr (s.2.1,s.2.2))) (0,r_2,r_3)).bind fun o=>(m55 (x.1.1,x.1.2.1,o.1,o.2)).bind fun r=>some ((r.1.1,
 r.1.2.1,r.1.2.2.1,r.1.2.2.2),r.2)
theorem c22:SpecOK Tryz.prog 22 ⟨as22,rs22,m22⟩ :=
 fc (TabOK.drop tabs27OK [54]) [] an22 Tryz.f22 fun x=>by kernel_rfl
def tabs22:Tabs:=Tabs.add tabs27 22 ⟨as22,rs22,m22⟩
theorem tabs22OK:TabOK Tryz.prog tabs22:=TabOK.add tabs27OK c22 Tryz.call22

/-! putlog/field.Changed -/
def as29:List Ty:=[(.pair tI (.pair tI (.pair tL tL))),(.pair tI (.pair tI (.pair tL tL)))]
def rs29:List Ty:=[tL,tI]
def an29:Ann:=.seq (.a) (.seq (.a) (.seq (.a) (.seq (.seq (.a) (.block (.loop ⟨[(38,.r (.c (.d (.d tI))))],(7::8::9::ra 39 54 ([])),[(2,.arr tI)],[]⟩ [(.exit 0,⟨[],(7::8::9::ra 38 55 ([])),[(2,.arr tI)],[]⟩)] (.seq (.a) (.seq (.a) (.seq (.join [(.norm,⟨[],(7::8::9::ra 40 52 ([])),[(2,.arr tI)],[]⟩)] (.block (.seq (.a) (.seq (.reg [0,1,0,7,15,0,32,0,224,480,1023,0,2048,0,14336,30720,0,65536,0,458752,983040,2095104,0,0,12584959,33554431] (ra 0 26 ([])) (z0::.s [0] []::za 4 (.s [0] []::za 5 (.s [1] []::za 4 (.s [1] []::za 4 (.s [] [3]::.s [] [4]::.s [3] [3]::.s [4] [4]::[]))))) (.a)) (.a))))) (.a))))))) (.a))))
def m29:((Int×Int×List Int×List Int)×Int×Int×List Int×List Int)→Option (List Int×Int) :=
 fun x=>(m17 (x.1.1,x.1.2.1,x.1.2.2.1,x.1.2.2.2)).bind fun r=>(bif PE.notM (PE.notM r) then m17 (x.2.1,x.2.2.1,x.2.2.2.1,x.2.2.2.2) else some
 false).bind fun r_1=>bif PE.orM (PE.orM (PE.orM (PE.notM r) (PE.notM r_1)) (PE.notM (eqM x.1.1 x.2.1))) (PE.notM (eqM x.1.2.1 x.2.2.1)) then some ([],250)
 else (mkM (lenM x.1.2.2.1) (lenM x.1.2.2.1) (nat_lit 8) 0).bind fun r_2=>(loopM (fun (s:Int×List Int)=>bif ltM s.1 (lenM r_2) then ((idxM x.1.2.2.1
 s.1).bind fun r_3=>(idxM x.1.2.2.2 s.1).bind fun r_4=>(idxM x.2.2.2.1 s.1).bind fun r_5=>(idxM x.2.2.2.2 s.1).bind fun r_6=>bif ltM (min r_4 r_6) (max
 r_3 r_5) then (chkM s.1 (lenM s.2)).bind fun r_7=>(setM s.2 s.1 fun (x:Int)=>some 2).bind fun r=>some r else bif PE.orM (PE.notM (PE.andM (eqM r_3
 r_5) (eqM r_4 r_6))) (PE.notM (eqM r_3 r_4)) then (chkM s.1 (lenM s.2)).bind fun r_7=>(setM s.2 s.1 fun (x:Int)=>some 1).bind fun r=>some r else some
 s.2).bind fun o=>some (Sum.inl (wrap IntKind.i64 (s.1+1),o)) else some (Sum.inr s.2)) (0,r_2)).bind fun o=>some (o,0)
theorem c29:SpecOK Tryz.prog 29 ⟨as29,rs29,m29⟩ :=
 fc tabs22OK [] an29 Tryz.f29 fun x=>by kernel_rfl
def tabs29:Tabs:=Tabs.add tabs22 29 ⟨as29,rs29,m29⟩
theorem tabs29OK:TabOK Tryz.prog tabs29:=TabOK.add tabs22OK c29 Tryz.call29

/-! putlog/putlogref25.Ints -/
def as31:List Ty:=[tL,tL]
def rs31:List Ty:=[.bool]
def an31:Ann:=.seq (.a) (.seq (.a) (.seq (.seq (.a) (.block (.loop ⟨[(5,.r (.c (.d (.d tI))))],(ra 11 15 ([])),[],[]⟩ [(.exit 0,⟨[],(5::ra 11 15 ([])),[],[]⟩),(.ret,⟨[(4,.r (.c (.d (.d .bool))))],(5::ra 11 15 ([])),[],[]⟩)] (.seq (.a) (.seq (.block (.seq (.reg [0,0,3,7,0,0,48,112,255] (ra 0 9 ([])) (za 9 ([])) (.a)) (.a))) (.a)))))) (.a)))
def m31:(List Int×List Int)→Option (Bool) :=
 fun x=>bif PE.notM (eqM (lenM x.1) (lenM x.2)) then some false else (loopM (fun (s:Int)=>bif ltM s (lenM x.1) then (idxM x.1 s).bind fun r=>(idxM x.2
 s).bind fun r_1=>bif PE.notM (eqM r r_1) then some (Sum.inr (Sum.inr false)) else some (Sum.inl (wrap IntKind.i64 (s+1))) else some (Sum.inr (Sum.inl
 ()))) 0).bind fun o=>Sum.elim (fun (t:Unit)=>some true) (fun (t:Bool)=>some t) o
theorem c31:SpecOK Tryz.prog 31 ⟨as31,rs31,m31⟩ :=
 fc tabs29OK [] an31 Tryz.f31 fun x=>by kernel_rfl
def tabs31:Tabs:=Tabs.add tabs29 31 ⟨as31,rs31,m31⟩
theorem tabs31OK:TabOK Tryz.prog tabs31:=TabOK.add tabs29OK c31 Tryz.call31

/-! putlog/putloglaw25.sane -/
def as12:List Ty:=[]
def rs12:List Ty:=[.bool]
def an12:Ann:=.seq (.a) (.seq (.a) (.seq (.a) (.seq (.a) (.seq (.a) (.seq (.a) (.seq (.a) (.seq (.a) (.seq (.reg [0,0,2,6,14,31,63,127,127,127,0,0,3327,7679,16383] (ra 0 15 ([])) (.s [0] []::za 9 (.s [] [2]::.s [] [3]::.s [2] [2]::.s [3] [3]::z0::[])) (.a)) (.seq (.reg [0,0,2,6,14,31,63,127,127,127,0,0,3327,7679,16383] (ra 0 15 ([])) (.s [0] []::za 9 (.s [] [4]::.s [] [5]::.s [4] [4]::.s [5] [5]::z0::[])) (.a)) (.a))))))))))
def m12:Unit→Option (Bool) :=
 fun x=>(m20 ((1,1,[0,6,12,6],[0,6,12,6]),1,1,2)).bind fun r=>(m20 ((1,1,[0,6,12,6],[0,6,12,6]),1,3,4)).bind fun r_1=>(m20 ((1,1,
 [0,6,12,6],[0,6,12,6]),3,0,2)).bind fun r_2=>(m15 (1,1,[0,6,12,6],[0,6,12,6])).bind fun r_3=>(m38 (0,0)).bind fun r_4=>(m38 (1,
 0)).bind fun r_5=>(m38 (0,1)).bind fun r_6=>(m33 ((1,1,[0,6,12,6],[0,6,12,6]),[(r_4.1,r_4.2),(r_5.1,r_5.2),(r_6.1,r_6.2)])).bind fun r_7
 => (m38 (0,0)).bind fun r_8=>(m38 (2,0)).bind fun r_9=>(m38 (0,1)).bind fun r_10=>(m33 ((1,1,[0,6,12,6],[0,6,12,6]),[(r_8.1,r_8.2),
 (r_9.1,r_9.2),(r_10.1,r_10.2)])).bind fun r_11=>(m35 ((1,1,[0,6,12,6],[0,6,12,6]),3)).bind fun r_12=>(m35 ((1,1,[0,6,12,6],[0,6,12,
 6]),11)).bind fun r_13=>(m25 (1,1,[0,6,12,6],[0,6,12,6])).bind fun r_14=>(m27 ((1,1,[0,6,12,6],[0,6,12,6]),1,1,[0,6,12,6],[0,6,
 12,6])).bind fun r_15=>(m22 ((1,1,[0,6,12,6],[0,6,12,6]),3)).bind fun r_16=>(m22 ((1,1,[0,6,12,6],[0,6,12,6]),9)).bind fun r_17 =>
 (m29 ((1,1,[0,6,12,6],[0,6,12,6]),1,1,[0,6,12,6],[0,7,12,6])).bind fun r_18=>bif PE.orM (PE.orM (PE.orM (PE.orM (PE.orM (PE.orM (PE.orM
 (PE.orM (PE.orM (PE.orM (PE.orM (PE.notM (eqM r.2.2 0)) (PE.notM (eqM r_1.2.2 0))) (PE.notM (eqM r_2.2.2 250))) (PE.notM (eqM r_7.2.2 0))) (PE.notM (eqM
 r_11.2.2 250))) (PE.notM (eqM r_12.2.2 0))) (PE.notM (eqM r_13.2.2 0))) (PE.notM (eqM r_14.2 0))) (PE.notM (eqM r_15.2 0))) (PE.notM (eqM r_16.2 0))) (PE.notM
 (eqM r_17.2 250))) (PE.notM (eqM r_18.2 0)) then some false else (m31 (r_14.1.2.2.1,[0,6,12,12,6,12,24,18,12])).bind fun r_19=>(bif r_19 then m31
 (r_14.1.2.2.2,r_14.1.2.2.1) else some false).bind fun r_20=>(bif PE.andM (PE.andM (PE.andM r_19 r_20) (eqM r_14.1.1 2)) (eqM r_14.1.2.1 2) then m31
 (r_15.1.2.2.2,[0,12,24,12]) else some false).bind fun r_21=>(bif PE.andM (PE.andM (PE.andM (PE.andM r_19 r_20) (eqM r_14.1.1 2)) (eqM r_14.1.2.1 2))
 r_21 then m31 (r_16.1.2.2.1,[0,18,36,18]) else some false).bind fun r_22=>(bif PE.andM (PE.andM (PE.andM (PE.andM (PE.andM (PE.andM (PE.andM (eqM r.1 6)
 (eqM r.2.1 6)) (eqM r_1.1 30)) (eqM r_1.2.1 30)) (eqM r_3.1 30)) (eqM r_3.2 30)) (PE.andM (PE.andM (PE.andM (PE.andM (PE.andM (eqsM r_7.1.1 [(50:UInt8)])
 (eqsM r_7.1.2 [(49:UInt8)])) (PE.andM (eqsM r_7.2.1.1 r_7.1.1) (eqsM r_7.2.1.2 r_7.1.2))) (PE.andM (eqsM r_12.1.1 [(49:UInt8),(51:UInt8)]) (eqsM
 r_12.1.2 [(49:UInt8),(54:UInt8)]))) (PE.andM (eqsM r_13.1.1 [(49:UInt8)]) (eqsM r_13.1.2 [(49:UInt8),(52:UInt8),(52:UInt8)]))) (PE.andM (eqsM
 r_13.2.1.1 r_13.1.1) (eqsM r_13.2.1.2 r_13.1.2)))) (PE.andM (PE.andM (PE.andM (PE.andM (PE.andM r_19 r_20) (eqM r_14.1.1 2)) (eqM r_14.1.2.1 2)) r_21) r_22)
 then m31 (r_18.1,[0,1,0,0]) else some false).bind fun r_23=>(bif PE.andM (PE.andM (PE.andM (PE.andM (PE.andM (PE.andM (PE.andM (PE.andM (eqM r.1 6) (eqM
 r.2.1 6)) (eqM r_1.1 30)) (eqM r_1.2.1 30)) (eqM r_3.1 30)) (eqM r_3.2 30)) (PE.andM (PE.andM (PE.andM (PE.andM (PE.andM (eqsM r_7.1.1 [(50:UInt8)]) (eqsM
 r_7.1.2 [(49:UInt8)])) (PE.andM (eqsM r_7.2.1.1 r_7.1.1) (eqsM r_7.2.1.2 r_7.1.2))) (PE.andM (eqsM r_12.1.1 [(49:UInt8),(51:UInt8)]) (eqsM r_12.1.2
 [(49:UInt8),(54:UInt8)]))) (PE.andM (eqsM r_13.1.1 [(49:UInt8)]) (eqsM r_13.1.2 [(49:UInt8),(52:UInt8),(52:UInt8)]))) (PE.andM (eqsM r_13.2.1.1
 r_13.1.1) (eqsM r_13.2.1.2 r_13.1.2)))) (PE.andM (PE.andM (PE.andM (PE.andM (PE.andM r_19 r_20) (eqM r_14.1.1 2)) (eqM r_14.1.2.1 2)) r_21) r_22)) r_23 then
 m17 (1,1,[0,6,12,6],[0,6,12,6]) else some false).bind fun r_24=>(bif PE.andM (PE.andM (PE.andM (PE.andM (PE.andM (PE.andM (PE.andM (PE.andM
 (PE.andM (eqM r.1 6) (eqM r.2.1 6)) (eqM r_1.1 30)) (eqM r_1.2.1 30)) (eqM r_3.1 30)) (eqM r_3.2 30)) (PE.andM (PE.andM (PE.andM (PE.andM (PE.andM (eqsM
 r_7.1.1 [(50:UInt8)]) (eqsM r_7.1.2 [(49:UInt8)])) (PE.andM (eqsM r_7.2.1.1 r_7.1.1) (eqsM r_7.2.1.2 r_7.1.2))) (PE.andM (eqsM r_12.1.1 [(49:UInt8),(51
 : UInt8)]) (eqsM r_12.1.2 [(49:UInt8),(54:UInt8)]))) (PE.andM (eqsM r_13.1.1 [(49:UInt8)]) (eqsM r_13.1.2 [(49:UInt8),(52:UInt8),(52:UInt8)])))
 (PE.andM (eqsM r_13.2.1.1 r_13.1.1) (eqsM r_13.2.1.2 r_13.1.2)))) (PE.andM (PE.andM (PE.andM (PE.andM (PE.andM r_19 r_20) (eqM r_14.1.1 2)) (eqM r_14.1.2.1
 2)) r_21) r_22)) r_23) r_24 then m17 (0,0,[],[]) else some false).bind fun r_25=>some (PE.andM (PE.andM (PE.andM (PE.andM (PE.andM (PE.andM (PE.andM
 (PE.andM (PE.andM (PE.andM (eqM r.1 6) (eqM r.2.1 6)) (eqM r_1.1 30)) (eqM r_1.2.1 30)) (eqM r_3.1 30)) (eqM r_3.2 30)) (PE.andM (PE.andM (PE.andM (PE.andM
 (PE.andM (eqsM r_7.1.1 [(50:UInt8)]) (eqsM r_7.1.2 [(49:UInt8)])) (PE.andM (eqsM r_7.2.1.1 r_7.1.1) (eqsM r_7.2.1.2 r_7.1.2))) (PE.andM (eqsM r_12.1.1
 [(49:UInt8),(51:UInt8)]) (eqsM r_12.1.2 [(49:UInt8),(54:UInt8)]))) (PE.andM (eqsM r_13.1.1 [(49:UInt8)]) (eqsM r_13.1.2 [(49:UInt8),(52 :
 UInt8),(52:UInt8)]))) (PE.andM (eqsM r_13.2.1.1 r_13.1.1) (eqsM r_13.2.1.2 r_13.1.2)))) (PE.andM (PE.andM (PE.andM (PE.andM (PE.andM r_19 r_20) (eqM
 r_14.1.1 2)) (eqM r_14.1.2.1 2)) r_21) r_22)) r_23) r_24) (PE.notM r_25))
theorem c12:SpecOK Tryz.prog 12 ⟨as12,rs12,m12⟩ :=
 fc tabs31OK [] an12 Tryz.f12 fun x=>by kernel_rfl
def tabs12:Tabs:=Tabs.add tabs31 12 ⟨as12,rs12,m12⟩
theorem tabs12OK:TabOK Tryz.prog tabs12:=TabOK.add tabs31OK c12 Tryz.call12

/-! putlog/putlogref25.pick -/
def as46:List Ty:=[tI,tI]
def rs46:List Ty:=[tI]
def an46:Ann:=.seq (.a) (.seq (.join [(.norm,⟨[(0,.r (.c (.d (.d tI))))],[5,6,7,8,9],[],[]⟩)] (.a)) (.a))
def m46:(Int×Int)→Option (Int) :=
 fun x=>(bif ltM x.1 0 then some (wrap IntKind.i64 (negM (wrap IntKind.i64 (x.1+1)))) else some x.1).bind fun o=>(remM o x.2).bind fun r=>some r
theorem c46:SpecOK Tryz.prog 46 ⟨as46,rs46,m46⟩ :=
 fc tabs12OK [] an46 Tryz.f46 fun x=>by kernel_rfl
def tabs46:Tabs:=Tabs.add tabs12 46 ⟨as46,rs46,m46⟩
theorem tabs46OK:TabOK Tryz.prog tabs46:=TabOK.add tabs12OK c46 Tryz.call46

/-! putlog/putlogref25.Made -/
def as13:List Ty:=[tI,tI,tI,tI,tQ]
def rs13:List Ty:=[(.pair tI (.pair tI (.pair tL tL)))]
def an13:Ann:=.seq (.a) (.seq (.a) (.seq (.seq (.a) (.block (.loop ⟨[(12,.r (.c (.d (.d tI))))],(13::14::ra 24 51 ([])),[(1,.box [.d (.d tI),.d (.d tI),.h 2,.h 3])],[.arr tI,.arr tI]⟩ [(.exit 0,⟨[],(12::13::14::ra 24 51 ([])),[(1,.box [.d (.d tI),.d (.d tI),.h 2,.h 3])],[.arr tI,.arr tI]⟩)] (.seq (.a) (.seq (.block (.seq (.a) (.seq (.join [(.norm,⟨[],(ra 42 10 ([])),[(4,.box [.d (.d tI),.d (.d tI)])],[]⟩)] (.a)) (.seq (.a) (.seq (.a) (.reg [0,1,0,0,8,24,60,0,252,508,1023,2047,4095] (ra 0 13 ([])) (z0::.s [1] []::z0::z0::.s [4] []::za 5 (.s [3] [6,3]::z0::.s [1,6] [1]::[])) (.a))))))) (.a)))))) (.a)))
def m13:(Int×Int×Int×Int×List (Int×Int))→Option (Int×Int×List Int×List Int) :=
 fun x=>(m46 (x.1,x.2.2.1)).bind fun r=>(m46 (x.2.1,x.2.2.1)).bind fun r_1=>(loopM (fun (s:Int×Int×Int×List Int×List Int)=>bif ltM s.1 (wrap
 IntKind.i64 (wrap IntKind.i64 (s.2.1+1)*wrap IntKind.i64 (s.2.2.1+1))) then (bif ltM 0 (lenM x.2.2.2.2) then (remM s.1 (lenM x.2.2.2.2)).bind fun r_2 =>
 (idxM x.2.2.2.2 r_2).bind fun r=>some (r.1,r.2) else some (wrap IntKind.i64 (wrap IntKind.i64 (7*s.1)+wrap IntKind.i64 (s.1*s.1)),0)).bind fun o =>
 (m46 (o.1,wrap IntKind.i64 (x.2.2.2.1+1))).bind fun r_2=>(appM (nat_lit 8) s.2.2.2.1 [r_2]).bind fun r_3=>(m46 (o.2,30)).bind fun r_4=>(appM
 (nat_lit 8) s.2.2.2.2 [min (wrap IntKind.i64 (r_2+r_4)) x.2.2.2.1]).bind fun r=>some (Sum.inl (wrap IntKind.i64 (s.1+1),s.2.1,s.2.2.1,r_3,r)) else
 some (Sum.inr (s.2.1,s.2.2.1,s.2.2.2.1,s.2.2.2.2))) (0,wrap IntKind.i64 (1+r),wrap IntKind.i64 (1+r_1),[],[])).bind fun o=>some (o.1,o.2.1,
 o.2.2.1,o.2.2.2)
theorem c13:SpecOK Tryz.prog 13 ⟨as13,rs13,m13⟩ :=
 fc tabs46OK [] an13 Tryz.f13 fun x=>by kernel_rfl
def tabs13:Tabs:=Tabs.add tabs46 13 ⟨as13,rs13,m13⟩
theorem tabs13OK:TabOK Tryz.prog tabs13:=TabOK.add tabs46OK c13 Tryz.call13

/-! putlog/putlogref25.Bent -/
def as14:List Ty:=[(.pair tI (.pair tI (.pair tL tL))),tI,tI,tI]
def rs14:List Ty:=[(.pair tI (.pair tI (.pair tL tL)))]
def an14:Ann:=.seq (.a) (.seq (.reg [0,1,0,4,0,0,32,112,0,0,512,2032,4095,0,16383] (ra 0 15 ([])) [z0,.s [0] [],z0,.s [0] [],z0,z0,.s [0] [],.s [] [2],z0,z0,.s [0] [],.s [] [3],z0,.s [] [4],.s [4,2,3] [4]] (.a)) (.seq (.join [(.norm,⟨[],(ra 23 48 ([])),[(2,.gone),(3,.gone),(4,.box [.d (.d tI),.d (.d tI),.d (.d tL),.h 5])],[.arr tI]⟩)] (.seq (.a) (.block (.seq (.a) (.cond (.a) (.seq (.a) (.cond (.a) (.seq (.a) (.cond (.reg [0,1,0,0,8,24,60,0,255,511] (ra 0 10 ([])) [z0,.s [4] [],z0,z0,.s [4] [],.s [2] [],z0,z0,.s [2] [],.s [2] [2]] (.a)) (.seq (.a) (.cond (.reg [0,1,0,0,8,24,60,0,255,511] (ra 0 10 ([])) [z0,.s [4] [],z0,z0,.s [4] [],.s [3] [],z0,z0,.s [3] [],.s [3] [3]] (.a)) (.a)))))))))))) (.a)))
def m14:((Int×Int×List Int×List Int)×Int×Int×Int)→Option (Int×Int×List Int×List Int) :=
 fun x=>(appM (nat_lit 8) [] x.1.2.2.1).bind fun r=>(appM (nat_lit 8) [] x.1.2.2.2).bind fun r_1=>((m46 (x.2.1,6)).bind fun r_2=>bif eqM r_2 0 then some
 (x.2.2.1,x.1.2.1,r,r_1) else bif eqM r_2 1 then some (x.1.1,x.2.2.1,r,r_1) else bif eqM r_2 2 then (m46 (x.2.2.2,lenM r)).bind fun r_3=>(chkM r_3
 (lenM r)).bind fun r_4=>(setM r r_3 fun (x_1:Int)=>some x.2.2.1).bind fun r=>some (x.1.1,x.1.2.1,r,r_1) else bif eqM r_2 3 then (m46 (x.2.2.2,lenM
 r_1)).bind fun r_3=>(chkM r_3 (lenM r_1)).bind fun r_4=>(setM r_1 r_3 fun (x_1:Int)=>some x.2.2.1).bind fun r_5=>some (x.1.1,x.1.2.1,r,r_5) else
 bif eqM r_2 4 then (sliceM r 0 (wrap IntKind.i64 (lenM r-1))).bind fun r=>some (x.1.1,x.1.2.1,r,r_1) else (appM (nat_lit 8) r_1 [x.2.2.1]).bind fun r_3
 => some (x.1.1,x.1.2.1,r,r_3)).bind fun o=>some (o.1,o.2.1,o.2.2.1,o.2.2.2)
theorem c14:SpecOK Tryz.prog 14 ⟨as14,rs14,m14⟩ :=
 fc tabs13OK [] an14 Tryz.f14 fun x=>by kernel_rfl
def tabs14:Tabs:=Tabs.add tabs13 14 ⟨as14,rs14,m14⟩
theorem tabs14OK:TabOK Tryz.prog tabs14:=TabOK.add tabs13OK c14 Tryz.call14
end
end Go.Proofs.YtdaaoecjdhipjaaGreatDoor
namespace Go.Proofs.YtdaaoecjdhipjaaGreatDoor
open Go Go.Abs Go.PE Go.Proofs
open Go.IntKind (wrap)
set_option maxRecDepth 100000
noncomputable section

/-! putlog/putlogref25.Valid -/
def as18:List Ty:=[(.pair tI (.pair tI (.pair tL tL)))]
def rs18:List Ty:=[.bool]
def an18:Ann:=.seq (.a) (.seq (.a) (.seq (.seq (.a) (.block (.loop ⟨[(3,.r (.c (.d (.d tI))))],(ra 44 34 ([])),[],[]⟩ [(.exit 0,⟨[],(3::ra 44 34 ([])),[],[]⟩),(.ret,⟨[(2,.r (.c (.d (.d .bool))))],(3::ra 44 34 ([])),[],[]⟩)] (.seq (.a) (.seq (.block (.seq (.reg [0,1,0,7,15,31,63,127,255,127,1023,2047,127,4223,127,28799,61567,131071,262143,524287,1048575,2097151,1048575,8388607,16777215,33554431,67108863] (ra 0 27 ([])) (z0::.s [0] []::za 6 (.s [0] []::za 4 (.s [0] []::za 7 (.s [0] []::za 5 ([]))))) (.a)) (.a))) (.a)))))) (.a)))
def m18:(Int×Int×List Int×List Int)→Option (Bool) :=
 fun x=>bif PE.orM (PE.orM (PE.orM (PE.orM (PE.orM (ltM x.1 1) (ltM 6 x.1)) (ltM x.2.1 1)) (ltM 6 x.2.1)) (PE.notM (eqM (lenM x.2.2.1) (wrap IntKind.i64 (wrap
 IntKind.i64 (x.1+1)*wrap IntKind.i64 (x.2.1+1)))))) (PE.notM (eqM (lenM x.2.2.2) (lenM x.2.2.1))) then some false else (loopM (fun (s:Int)=>bif ltM
 s (lenM x.2.2.1) then (idxM x.2.2.1 s).bind fun r=>(bif PE.notM (ltM r 0) then idxM x.2.2.1 s else some 0).bind fun r_1=>(bif PE.notM (ltM r 0) then idxM
 x.2.2.2 s else some 0).bind fun r_2=>(bif PE.notM (PE.orM (ltM r 0) (ltM r_2 r_1)) then idxM x.2.2.2 s else some 0).bind fun r_3=>bif PE.orM (PE.orM (ltM
 r 0) (ltM r_2 r_1)) (ltM 100 r_3) then some (Sum.inr (Sum.inr false)) else some (Sum.inl (wrap IntKind.i64 (s+1))) else some (Sum.inr (Sum.inl ()))) 0).bind
 fun o=>Sum.elim (fun (t:Unit)=>some true) (fun (t:Bool)=>some t) o
theorem c18:SpecOK Tryz.prog 18 ⟨as18,rs18,m18⟩ :=
 fc tabs14OK [] an18 Tryz.f18 fun x=>by kernel_rfl
def tabs18:Tabs:=Tabs.add tabs14 18 ⟨as18,rs18,m18⟩
theorem tabs18OK:TabOK Tryz.prog tabs18:=TabOK.add tabs14OK c18 Tryz.call18

/-! putlog/putlogref25.node -/
def as124:List Ty:=[(.pair tI (.pair tI (.pair tL tL))),tL,tI,tI]
def rs124:List Ty:=[tB]
def an124:Ann:=.a
def m124:((Int×Int×List Int×List Int)×List Int×Int×Int)→Option (Int×Int×Int) :=
 fun x=>(idxM x.2.1 (wrap IntKind.i64 (wrap IntKind.i64 (x.2.2.2*wrap IntKind.i64 (x.1.1+1))+x.2.2.1))).bind fun r=>some (x.2.2.1,x.2.2.2,r)
theorem c124:SpecOK Tryz.prog 124 ⟨as124,rs124,m124⟩ :=
 fc tabs18OK [] an124 Tryz.f124 fun x=>by kernel_rfl
def tabs124:Tabs:=Tabs.add tabs18 124 ⟨as124,rs124,m124⟩
theorem tabs124OK:TabOK Tryz.prog tabs124:=TabOK.add tabs18OK c124 Tryz.call124

/-! putlog/putlogref25.triangles -/
def as88:List Ty:=[(.pair tI (.pair tI (.pair tL tL))),tL]
def rs88:List Ty:=[(.list (.pair tB (.pair tB tB)))]
def an88:Ann:=.seq (.a) (.seq (.a) (.seq (.seq (.a) (.block (.loop ⟨[(5,.r (.c (.h 1))),(6,.r (.c (.d (.d tI))))],(ra 7 52 ([])),[],[.arr (.pair tB (.pair tB tB))]⟩ [(.exit 0,⟨[(5,.r (.c (.h 1)))],(ra 6 53 ([])),[],[.arr (.pair tB (.pair tB tB))]⟩)] (.seq (.a) (.seq (.block (.seq (.a) (.block (.loop ⟨[(5,.r (.c (.h 2))),(7,.r (.c (.d (.d tI))))],(8::9::10::11::ra 18 41 ([])),[(1,.gone)],[.arr (.pair tB (.pair tB tB))]⟩ [(.exit 2,⟨[(5,.r (.c (.h 2)))],(7::8::9::10::11::ra 18 41 ([])),[(1,.gone)],[.arr (.pair tB (.pair tB tB))]⟩)] (.a))))) (.a)))))) (.a)))
def m88:((Int×Int×List Int×List Int)×List Int)→Option (List ((Int×Int×Int)×(Int×Int×Int)×Int×Int×Int)) :=
 fun x=>(loopM (fun (s:Int×List ((Int×Int×Int)×(Int×Int×Int)×Int×Int×Int))=>bif ltM s.1 x.1.2.1 then (loopM (fun (s_1:Int×List ((Int
 × Int×Int)×(Int×Int×Int)×Int×Int×Int))=>bif ltM s_1.1 x.1.1 then (m124 ((x.1.1,x.1.2.1,x.1.2.2.1,x.1.2.2.2),x.2,s_1.1,s.1)).bind fun r
 => (m124 ((x.1.1,x.1.2.1,x.1.2.2.1,x.1.2.2.2),x.2,wrap IntKind.i64 (s_1.1+1),s.1)).bind fun r_1=>(m124 ((x.1.1,x.1.2.1,x.1.2.2.1,x.1.2.2.2),x.2,
 wrap IntKind.i64 (s_1.1+1),wrap IntKind.i64 (s.1+1))).bind fun r_2=>(m124 ((x.1.1,x.1.2.1,x.1.2.2.1,x.1.2.2.2),x.2,s_1.1,wrap IntKind.i64 (s.1 +
 1))).bind fun r_3=>(appM (nat_lit 72) s_1.2 [((r.1,r.2.1,r.2.2),(r_1.1,r_1.2.1,r_1.2.2),r_2.1,r_2.2.1,r_2.2.2),((r.1,r.2.1,r.2.2),(r_2.1,
 r_2.2.1,r_2.2.2),r_3.1,r_3.2.1,r_3.2.2)]).bind fun r=>some (Sum.inl (wrap IntKind.i64 (s_1.1+1),r)) else some (Sum.inr s_1.2)) (0,s.2)).bind fun o
 => some (Sum.inl (wrap IntKind.i64 (s.1+1),o)) else some (Sum.inr s.2)) (0,[])).bind fun o=>some o
theorem c88:SpecOK Tryz.prog 88 ⟨as88,rs88,m88⟩ :=
 fc tabs124OK [] an88 Tryz.f88 fun x=>by kernel_rfl
def tabs88:Tabs:=Tabs.add tabs124 88 ⟨as88,rs88,m88⟩
theorem tabs88OK:TabOK Tryz.prog tabs88:=TabOK.add tabs124OK c88 Tryz.call88

/-! putlog/putlogref25.integral -/
def as50:List Ty:=[(.pair tI (.pair tI (.pair tL tL))),tL]
def rs50:List Ty:=[tI]
def an50:Ann:=.seq (.a) (.seq (.a) (.seq (.a) (.seq (.seq (.a) (.block (.loop ⟨[(6,.r (.c (.d (.d tI)))),(7,.r (.c (.d (.d tI))))],(ra 11 28 ([])),[],[]⟩ [(.exit 0,⟨[(6,.r (.c (.d (.d tI))))],(7::ra 11 28 ([])),[],[]⟩)] (.seq (.a) (.seq (.block (.reg [0,0,0,6,14,30,62,127,0,0,768,1792,3840,7936,16383,0,0,98304,229376,491520,1015808,2097151,4194303] (ra 0 23 ([])) (za 23 ([])) (.a))) (.a)))))) (.a))))
def m50:((Int×Int×List Int×List Int)×List Int)→Option (Int) :=
 fun x=>(m88 ((x.1.1,x.1.2.1,x.1.2.2.1,x.1.2.2.2),x.2)).bind fun r=>(loopM (fun (s:Int×Int)=>bif ltM s.2 (lenM r) then (idxM r s.2).bind fun r_1 =>
 (idxM r s.2).bind fun r_2=>(idxM r s.2).bind fun r=>some (Sum.inl (wrap IntKind.i64 (wrap IntKind.i64 (wrap IntKind.i64 (s.1+r_1.1.2.2)+r_2.2.1.2.2) +
 r.2.2.2.2),wrap IntKind.i64 (s.2+1))) else some (Sum.inr s.1)) (0,0)).bind fun o=>some o
theorem c50:SpecOK Tryz.prog 50 ⟨as50,rs50,m50⟩ :=
 fc tabs88OK [] an50 Tryz.f50 fun x=>by kernel_rfl
def tabs50:Tabs:=Tabs.add tabs88 50 ⟨as50,rs50,m50⟩
theorem tabs50OK:TabOK Tryz.prog tabs50:=TabOK.add tabs88OK c50 Tryz.call50

/-! putlog/putlogref25.Integral6 -/
def as16:List Ty:=[(.pair tI (.pair tI (.pair tL tL)))]
def rs16:List Ty:=[tI,tI]
def an16:Ann:=.seq (.a) (.seq (.a) (.seq (.reg [0,0,2,7,0,0,32,127,255,511] (ra 0 10 ([])) (.s [0] []::z0::.s [0] []::z0::.s [0] []::z0::.s [0] []::za 3 ([])) (.a)) (.a)))
def m16:(Int×Int×List Int×List Int)→Option (Int×Int) :=
 fun x=>(m18 (x.1,x.2.1,x.2.2.1,x.2.2.2)).bind fun r=>bif PE.notM r then some (0,0) else (m50 ((x.1,x.2.1,x.2.2.1,x.2.2.2),x.2.2.1)).bind fun r_1 =>
 (m50 ((x.1,x.2.1,x.2.2.1,x.2.2.2),x.2.2.2)).bind fun r=>some (r_1,r)
theorem c16:SpecOK Tryz.prog 16 ⟨as16,rs16,m16⟩ :=
 fc tabs50OK [] an16 Tryz.f16 fun x=>by kernel_rfl
def tabs16:Tabs:=Tabs.add tabs50 16 ⟨as16,rs16,m16⟩
theorem tabs16OK:TabOK Tryz.prog tabs16:=TabOK.add tabs50OK c16 Tryz.call16

/-! putlog/putloglaw25.pick -/
def as19:List Ty:=[tI,tI]
def rs19:List Ty:=[tI]
def an19:Ann:=.seq (.a) (.seq (.join [(.norm,⟨[(0,.r (.c (.d (.d tI))))],[5,6,7,8,9],[],[]⟩)] (.a)) (.a))
def m19:(Int×Int)→Option (Int) :=
 fun x=>(bif ltM x.1 0 then some (wrap IntKind.i64 (negM (wrap IntKind.i64 (x.1+1)))) else some x.1).bind fun o=>(remM o x.2).bind fun r=>some r
theorem c19:SpecOK Tryz.prog 19 ⟨as19,rs19,m19⟩ :=
 fc tabs16OK [] an19 Tryz.f19 fun x=>by kernel_rfl
def tabs19:Tabs:=Tabs.add tabs16 19 ⟨as19,rs19,m19⟩
theorem tabs19OK:TabOK Tryz.prog tabs19:=TabOK.add tabs16OK c19 Tryz.call19

/-! putlog/putlogref25.area -/
def as89:List Ty:=[tI,tI,tI,tI,tI,tI]
def rs89:List Ty:=[tI]
def an89:Ann:=.a
def m89:(Int×Int×Int×Int×Int×Int)→Option (Int) :=
 fun x=>some (wrap IntKind.i64 (wrap IntKind.i64 (wrap IntKind.i64 (x.2.2.1-x.1)*wrap IntKind.i64 (x.2.2.2.2.2-x.2.1))-wrap IntKind.i64 (wrap
 IntKind.i64 (x.2.2.2.1-x.2.1)*wrap IntKind.i64 (x.2.2.2.2.1-x.1))))
theorem c89:SpecOK Tryz.prog 89 ⟨as89,rs89,m89⟩ :=
 fc tabs19OK [] an89 Tryz.f89 fun x=>by kernel_rfl
def tabs89:Tabs:=Tabs.add tabs19 89 ⟨as89,rs89,m89⟩
theorem tabs89OK:TabOK Tryz.prog tabs89:=TabOK.add tabs19OK c89 Tryz.call89

/-! putlog/putlogref25.value -/
def as53:List Ty:=[(.pair tI (.pair tI (.pair tL tL))),tL,tI,tI,tI]
def rs53:List Ty:=[tI]
def an53:Ann:=.seq (.a) (.seq (.a) (.seq (.seq (.a) (.block (.loop ⟨[(12,.r (.c (.d (.d tI))))],(ra 13 6 (ra 22 88 ([]))),[],[]⟩ [(.exit 0,⟨[],(ra 12 7 (ra 22 88 ([]))),[],[]⟩),(.ret,⟨[(10,.r (.c (.d (.d tI))))],(ra 12 7 (ra 22 104 ([]))),[],[]⟩)] (.a)))) (.a)))
def m53:((Int×Int×List Int×List Int)×List Int×Int×Int×Int)→Option (Int) :=
 fun x=>(m88 ((x.1.1,x.1.2.1,x.1.2.2.1,x.1.2.2.2),x.2.1)).bind fun r=>(loopM (fun (s:Int)=>bif ltM s (lenM r) then (idxM r s).bind fun r_1=>(idxM r
 s).bind fun r_2=>(idxM r s).bind fun r_3=>(m89 (wrap IntKind.i64 (r_2.2.1.1*x.2.2.2.2),wrap IntKind.i64 (r_2.2.1.2.1*x.2.2.2.2),wrap IntKind.i64
 (r_3.2.2.1*x.2.2.2.2),wrap IntKind.i64 (r_3.2.2.2.1*x.2.2.2.2),x.2.2.1,x.2.2.2.1)).bind fun r_4=>(m89 (wrap IntKind.i64 (r_3.2.2.1*x.2.2.2.2),wrap
 IntKind.i64 (r_3.2.2.2.1*x.2.2.2.2),wrap IntKind.i64 (r_1.1.1*x.2.2.2.2),wrap IntKind.i64 (r_1.1.2.1*x.2.2.2.2),x.2.2.1,x.2.2.2.1)).bind fun r_5 =>
 (m89 (wrap IntKind.i64 (r_1.1.1*x.2.2.2.2),wrap IntKind.i64 (r_1.1.2.1*x.2.2.2.2),wrap IntKind.i64 (r_2.2.1.1*x.2.2.2.2),wrap IntKind.i64
 (r_2.2.1.2.1*x.2.2.2.2),x.2.2.1,x.2.2.2.1)).bind fun r_6=>bif PE.andM (PE.andM (leM 0 r_4) (leM 0 r_5)) (leM 0 r_6) then (divM IntKind.i64 (wrap
 IntKind.i64 (wrap IntKind.i64 (wrap IntKind.i64 (r_4*r_1.1.2.2)+wrap IntKind.i64 (r_5*r_2.2.1.2.2))+wrap IntKind.i64 (r_6*r_3.2.2.2.2)))
 x.2.2.2.2).bind fun r=>some (Sum.inr (Sum.inr r)) else some (Sum.inl (wrap IntKind.i64 (s+1))) else some (Sum.inr (Sum.inl ()))) 0).bind fun o=>Sum.elim
 (fun (t:Unit)=>some 0) (fun (t:Int)=>some t) o
theorem c53:SpecOK Tryz.prog 53 ⟨as53,rs53,m53⟩ :=
 fc tabs89OK [] an53 Tryz.f53 fun x=>by kernel_rfl
def tabs53:Tabs:=Tabs.add tabs89 53 ⟨as53,rs53,m53⟩
theorem tabs53OK:TabOK Tryz.prog tabs53:=TabOK.add tabs89OK c53 Tryz.call53

/-! putlog/putlogref25.At -/
def as21:List Ty:=[(.pair tI (.pair tI (.pair tL tL))),tI,tI,tI]
def rs21:List Ty:=[tI,tI,tI]
def an21:Ann:=.seq (.a) (.seq (.a) (.seq (.reg [0,0,2,0,0,0,63,0,0,256,0,0,0,8191,16383,32767,65535] (ra 0 17 ([])) (.s [0] []::z0::.s [0] []::za 4 (.s [0] []::z0::.s [0] []::za 7 ([]))) (.a)) (.a)))
def m21:((Int×Int×List Int×List Int)×Int×Int×Int)→Option (Int×Int×Int) :=
 fun x=>(m18 (x.1.1,x.1.2.1,x.1.2.2.1,x.1.2.2.2)).bind fun r=>bif PE.orM (PE.orM (PE.orM (PE.orM (PE.orM (PE.orM (PE.notM r) (ltM x.2.2.2 1)) (ltM 60
 x.2.2.2)) (ltM x.2.1 0)) (ltM (wrap IntKind.i64 (x.1.1*x.2.2.2)) x.2.1)) (ltM x.2.2.1 0)) (ltM (wrap IntKind.i64 (x.1.2.1*x.2.2.2)) x.2.2.1) then some (0,
 0,250) else (m53 ((x.1.1,x.1.2.1,x.1.2.2.1,x.1.2.2.2),x.1.2.2.1,x.2.1,x.2.2.1,x.2.2.2)).bind fun r_1=>(m53 ((x.1.1,x.1.2.1,x.1.2.2.1,x.1.2.2.2),
 x.1.2.2.2,x.2.1,x.2.2.1,x.2.2.2)).bind fun r=>some (r_1,r,0)
theorem c21:SpecOK Tryz.prog 21 ⟨as21,rs21,m21⟩ :=
 fc tabs53OK [] an21 Tryz.f21 fun x=>by kernel_rfl
def tabs21:Tabs:=Tabs.add tabs53 21 ⟨as21,rs21,m21⟩
theorem tabs21OK:TabOK Tryz.prog tabs21:=TabOK.add tabs53OK c21 Tryz.call21

/-! putlog/putlogref25.checked -/
def as56:List Ty:=[(.pair tI (.pair tI (.pair tL tL)))]
def rs56:List Ty:=[(.pair tI (.pair tI (.pair tL tL))),tI]
def an56:Ann:=.a
def m56:(Int×Int×List Int×List Int)→Option ((Int×Int×List Int×List Int)×Int) :=
 fun x=>(m18 (x.1,x.2.1,x.2.2.1,x.2.2.2)).bind fun r=>bif PE.notM r then some ((0,0,[],[]),250) else some ((x.1,x.2.1,x.2.2.1,x.2.2.2),0)
theorem c56:SpecOK Tryz.prog 56 ⟨as56,rs56,m56⟩ :=
 fc tabs21OK [] an56 Tryz.f56 fun x=>by kernel_rfl
def tabs56:Tabs:=Tabs.add tabs21 56 ⟨as56,rs56,m56⟩
theorem tabs56OK:TabOK Tryz.prog tabs56:=TabOK.add tabs21OK c56 Tryz.call56

/-! putlog/putlogref25.Scale -/
def as23:List Ty:=[(.pair tI (.pair tI (.pair tL tL))),tI]
def rs23:List Ty:=[(.pair tI (.pair tI (.pair tL tL))),tI]
def an23:Ann:=.seq (.a) (.seq (.a) (.seq (.a) (.seq (.seq (.a) (.block (.loop ⟨[(7,.r (.c (.d (.d tI))))],(ra 25 31 ([])),[(2,.box [.d (.d tI),.d (.d tI),.h 3,.h 4])],[.arr tI,.arr tI]⟩ [(.exit 0,⟨[],(7::ra 25 31 ([])),[(2,.box [.d (.d tI),.d (.d tI),.h 3,.h 4])],[.arr tI,.arr tI]⟩)] (.seq (.a) (.seq (.block (.seq (.reg [0,1,0,0,8,0,56,120,252,508,1023,2047,4095] (ra 0 13 ([])) (z0::.s [2] []::z0::z0::.s [0] []::za 5 (.s [3] [5,3]::z0::.s [2,5] [2]::[])) (.a)) (.reg [0,1,0,0,8,0,56,120,252,508,1023,2047,4095] (ra 0 13 ([])) (z0::.s [2] []::z0::z0::.s [0] []::za 5 (.s [4] [6,4]::z0::.s [2,6] [2]::[])) (.a)))) (.a)))))) (.a))))
def m23:((Int×Int×List Int×List Int)×Int)→Option ((Int×Int×List Int×List Int)×Int) :=
 fun x=>(m18 (x.1.1,x.1.2.1,x.1.2.2.1,x.1.2.2.2)).bind fun r=>bif PE.orM (PE.orM (PE.notM r) (ltM x.2 0)) (ltM 100 x.2) then some ((0,0,[],[]),250)
 else (loopM (fun (s:Int×Int×Int×List Int×List Int)=>bif ltM s.1 (lenM x.1.2.2.1) then (idxM x.1.2.2.1 s.1).bind fun r_1=>(appM (nat_lit 8)
 s.2.2.2.1 [wrap IntKind.i64 (x.2*r_1)]).bind fun r_2=>(idxM x.1.2.2.2 s.1).bind fun r_3=>(appM (nat_lit 8) s.2.2.2.2 [wrap IntKind.i64 (x.2 *
 r_3)]).bind fun r=>some (Sum.inl (wrap IntKind.i64 (s.1+1),s.2.1,s.2.2.1,r_2,r)) else some (Sum.inr (s.2.1,s.2.2.1,s.2.2.2.1,s.2.2.2.2))) (0,
 x.1.1,x.1.2.1,[],[])).bind fun o=>(m56 (o.1,o.2.1,o.2.2.1,o.2.2.2)).bind fun r=>some ((r.1.1,r.1.2.1,r.1.2.2.1,r.1.2.2.2),r.2)
theorem c23:SpecOK Tryz.prog 23 ⟨as23,rs23,m23⟩ :=
 fc tabs56OK [] an23 Tryz.f23 fun x=>by kernel_rfl
def tabs23:Tabs:=Tabs.add tabs56 23 ⟨as23,rs23,m23⟩
theorem tabs23OK:TabOK Tryz.prog tabs23:=TabOK.add tabs56OK c23 Tryz.call23

/-! putlog/putlogref25.Same -/
def as24:List Ty:=[(.pair tI (.pair tI (.pair tL tL))),(.pair tI (.pair tI (.pair tL tL)))]
def rs24:List Ty:=[.bool]
def an24:Ann:=.a
def m24:((Int×Int×List Int×List Int)×Int×Int×List Int×List Int)→Option (Bool) :=
 fun x=>(bif PE.andM (eqM x.1.1 x.2.1) (eqM x.1.2.1 x.2.2.1) then m31 (x.1.2.2.1,x.2.2.2.1) else some false).bind fun r=>(bif PE.andM (PE.andM (eqM x.1.1
 x.2.1) (eqM x.1.2.1 x.2.2.1)) r then m31 (x.1.2.2.2,x.2.2.2.2) else some false).bind fun r_1=>some (PE.andM (PE.andM (PE.andM (eqM x.1.1 x.2.1) (eqM
 x.1.2.1 x.2.2.1)) r) r_1)
theorem c24:SpecOK Tryz.prog 24 ⟨as24,rs24,m24⟩ :=
 fc tabs23OK [] an24 Tryz.f24 fun x=>by kernel_rfl
def tabs24:Tabs:=Tabs.add tabs23 24 ⟨as24,rs24,m24⟩
theorem tabs24OK:TabOK Tryz.prog tabs24:=TabOK.add tabs23OK c24 Tryz.call24

/-! putlog/putlogref25.Refine -/
def as26:List Ty:=[(.pair tI (.pair tI (.pair tL tL)))]
def rs26:List Ty:=[(.pair tI (.pair tI (.pair tL tL))),tI]
def an26:Ann:=.seq (.a) (.seq (.a) (.seq (.a) (.seq (.seq (.a) (.block (.loop ⟨[(5,.r (.c (.d (.d tI))))],(6::7::8::9::ra 21 32 ([])),[(2,.box [.d (.d tI),.d (.d tI),.h 3,.h 4])],[.arr tI,.arr tI]⟩ [(.exit 0,⟨[],(5::6::7::8::9::ra 21 32 ([])),[(2,.box [.d (.d tI),.d (.d tI),.h 3,.h 4])],[.arr tI,.arr tI]⟩)] (.seq (.a) (.seq (.block (.seq (.a) (.block (.loop ⟨[(6,.r (.c (.d (.d tI))))],(7::8::9::ra 27 26 ([])),[(2,.box [.d (.d tI),.d (.d tI),.h 5,.h 6]),(3,.gone),(4,.gone)],[.arr tI,.arr tI]⟩ [(.exit 2,⟨[],(6::7::8::9::ra 27 26 ([])),[(2,.box [.d (.d tI),.d (.d tI),.h 5,.h 6]),(3,.gone),(4,.gone)],[.arr tI,.arr tI]⟩)] (.a))))) (.a)))))) (.a))))
def m26:(Int×Int×List Int×List Int)→Option ((Int×Int×List Int×List Int)×Int) :=
 fun x=>(m18 (x.1,x.2.1,x.2.2.1,x.2.2.2)).bind fun r=>bif PE.notM r then some ((0,0,[],[]),250) else (loopM (fun (s:Int×Int×Int×List Int ×
 List Int)=>bif leM s.1 s.2.2.1 then (loopM (fun (s_1:Int×Int×Int×List Int×List Int)=>bif leM s_1.1 s_1.2.1 then (m21 ((x.1,x.2.1,x.2.2.1,
 x.2.2.2),s_1.1,s.1,2)).bind fun r_1=>(appM (nat_lit 8) s_1.2.2.2.1 [r_1.1]).bind fun r_2=>(appM (nat_lit 8) s_1.2.2.2.2 [r_1.2.1]).bind fun r=>some
 (Sum.inl (wrap IntKind.i64 (s_1.1+1),s_1.2.1,s_1.2.2.1,r_2,r)) else some (Sum.inr (s_1.2.1,s_1.2.2.1,s_1.2.2.2.1,s_1.2.2.2.2))) (0,s.2.1,s.2.2.1,
 s.2.2.2.1,s.2.2.2.2)).bind fun o=>some (Sum.inl (wrap IntKind.i64 (s.1+1),o.1,o.2.1,o.2.2.1,o.2.2.2)) else some (Sum.inr (s.2.1,s.2.2.1,s.2.2.2.1,
 s.2.2.2.2))) (0,wrap IntKind.i64 (2*x.1),wrap IntKind.i64 (2*x.2.1),[],[])).bind fun o=>(m56 (o.1,o.2.1,o.2.2.1,o.2.2.2)).bind fun r=>some
 ((r.1.1,r.1.2.1,r.1.2.2.1,r.1.2.2.2),r.2)
theorem c26:SpecOK Tryz.prog 26 ⟨as26,rs26,m26⟩ :=
 fc tabs24OK [] an26 Tryz.f26 fun x=>by kernel_rfl
def tabs26:Tabs:=Tabs.add tabs24 26 ⟨as26,rs26,m26⟩
theorem tabs26OK:TabOK Tryz.prog tabs26:=TabOK.add tabs24OK c26 Tryz.call26

/-! putlog/putlogref25.Add -/
def as28:List Ty:=[(.pair tI (.pair tI (.pair tL tL))),(.pair tI (.pair tI (.pair tL tL)))]
def rs28:List Ty:=[(.pair tI (.pair tI (.pair tL tL))),tI]
def an28:Ann:=.seq (.a) (.seq (.a) (.seq (.a) (.seq (.seq (.a) (.block (.loop ⟨[(7,.r (.c (.d (.d tI))))],(ra 36 39 ([])),[(3,.box [.d (.d tI),.d (.d tI),.h 4,.h 5])],[.arr tI,.arr tI]⟩ [(.exit 0,⟨[],(7::ra 36 39 ([])),[(3,.box [.d (.d tI),.d (.d tI),.h 4,.h 5])],[.arr tI,.arr tI]⟩)] (.seq (.a) (.seq (.block (.seq (.reg [0,1,0,4,0,28,60,0,128,0,896,1920,4092,8188,16383,32767,65535] (ra 0 17 ([])) (z0::.s [3] []::z0::.s [0] []::za 4 (.s [1] []::za 5 (.s [4] [6,4]::z0::.s [3,6] [3]::[]))) (.a)) (.reg [0,1,0,4,0,28,60,0,128,0,896,1920,4092,8188,16383,32767,65535] (ra 0 17 ([])) (z0::.s [3] []::z0::.s [0] []::za 4 (.s [1] []::za 5 (.s [5] [7,5]::z0::.s [3,7] [3]::[]))) (.a)))) (.a)))))) (.a))))
def m28:((Int×Int×List Int×List Int)×Int×Int×List Int×List Int)→Option ((Int×Int×List Int×List Int)×Int) :=
 fun x=>(m18 (x.1.1,x.1.2.1,x.1.2.2.1,x.1.2.2.2)).bind fun r=>(bif PE.notM (PE.notM r) then m18 (x.2.1,x.2.2.1,x.2.2.2.1,x.2.2.2.2) else some
 false).bind fun r_1=>bif PE.orM (PE.orM (PE.orM (PE.notM r) (PE.notM r_1)) (PE.notM (eqM x.1.1 x.2.1))) (PE.notM (eqM x.1.2.1 x.2.2.1)) then some ((0,0,
 [],[]),250) else (loopM (fun (s:Int×Int×Int×List Int×List Int)=>bif ltM s.1 (lenM x.1.2.2.1) then (idxM x.1.2.2.1 s.1).bind fun r_2=>(idxM
 x.2.2.2.1 s.1).bind fun r_3=>(appM (nat_lit 8) s.2.2.2.1 [wrap IntKind.i64 (r_2+r_3)]).bind fun r_4=>(idxM x.1.2.2.2 s.1).bind fun r_5=>(idxM
 x.2.2.2.2 s.1).bind fun r_6=>(appM (nat_lit 8) s.2.2.2.2 [wrap IntKind.i64 (r_5+r_6)]).bind fun r=>some (Sum.inl (wrap IntKind.i64 (s.1+1),s.2.1,
 s.2.2.1,r_4,r)) else some (Sum.inr (s.2.1,s.2.2.1,s.2.2.2.1,s.2.2.2.2))) (0,x.1.1,x.1.2.1,[],[])).bind fun o=>(m56 (o.1,o.2.1,o.2.2.1,
 o.2.2.2)).bind fun r=>some ((r.1.1,r.1.2.1,r.1.2.2.1,r.1.2.2.2),r.2)
theorem c28:SpecOK Tryz.prog 28 ⟨as28,rs28,m28⟩ :=
 fc tabs26OK [] an28 Tryz.f28 fun x=>by kernel_rfl
def tabs28:Tabs:=Tabs.add tabs26 28 ⟨as28,rs28,m28⟩
theorem tabs28OK:TabOK Tryz.prog tabs28:=TabOK.add tabs26OK c28 Tryz.call28

/-! putlog/putlogref25.Changed -/
def as30:List Ty:=[(.pair tI (.pair tI (.pair tL tL))),(.pair tI (.pair tI (.pair tL tL)))]
def rs30:List Ty:=[tL,tI]
def an30:Ann:=.seq (.a) (.seq (.a) (.seq (.a) (.seq (.seq (.a) (.block (.loop ⟨[(6,.r (.c (.h 2))),(7,.r (.c (.d (.d tI))))],(ra 30 66 ([])),[],[.arr tI]⟩ [(.exit 0,⟨[(6,.r (.c (.h 2)))],(7::ra 30 66 ([])),[],[.arr tI]⟩)] (.seq (.a) (.seq (.join [(.norm,⟨[(6,.r (.c (.h 3)))],(ra 37 59 ([])),[(2,.gone)],[.arr tI]⟩)] (.block (.block (.seq (.reg [0,1,0,7,15,0,32,0,224,480,1023,2047,4095,8191,4095,32767,65535,4095,135167,4095,921599,1970175,4194303,8388607,16777215] (ra 0 25 ([])) (z0::.s [0] []::za 4 (.s [1] []::za 6 (.s [1] []::za 4 (.s [0] []::za 6 ([]))))) (.a)) (.cond (.a) (.seq (.reg [0,1,0,7,15,0,32,0,224,480,1023,2047,4095,8191,4095,32767,65535,4095,135167,4095,921599,1970175,4194303,8388607,16777215] (ra 0 25 ([])) (z0::.s [0] []::za 4 (.s [0] []::za 6 (.s [1] []::za 4 (.s [1] []::za 6 ([]))))) (.a)) (.a))))))) (.a)))))) (.a))))
def m30:((Int×Int×List Int×List Int)×Int×Int×List Int×List Int)→Option (List Int×Int) :=
 fun x=>(m18 (x.1.1,x.1.2.1,x.1.2.2.1,x.1.2.2.2)).bind fun r=>(bif PE.notM (PE.notM r) then m18 (x.2.1,x.2.2.1,x.2.2.2.1,x.2.2.2.2) else some
 false).bind fun r_1=>bif PE.orM (PE.orM (PE.orM (PE.notM r) (PE.notM r_1)) (PE.notM (eqM x.1.1 x.2.1))) (PE.notM (eqM x.1.2.1 x.2.2.1)) then some ([],250)
 else (loopM (fun (s:Int×List Int)=>bif ltM s.1 (lenM x.1.2.2.1) then ((idxM x.1.2.2.2 s.1).bind fun r_2=>(idxM x.2.2.2.1 s.1).bind fun r_3=>(bif
 PE.notM (ltM r_2 r_3) then idxM x.2.2.2.2 s.1 else some 0).bind fun r_4=>(bif PE.notM (ltM r_2 r_3) then idxM x.1.2.2.1 s.1 else some 0).bind fun r_5=>bif
 PE.orM (ltM r_2 r_3) (ltM r_4 r_5) then (appM (nat_lit 8) s.2 [2]).bind fun r=>some r else (idxM x.1.2.2.1 s.1).bind fun r_6=>(idxM x.1.2.2.2 s.1).bind
 fun r_7=>(bif eqM r_6 r_7 then idxM x.2.2.2.1 s.1 else some 0).bind fun r_8=>(bif eqM r_6 r_7 then idxM x.2.2.2.2 s.1 else some 0).bind fun r_9=>bif
 PE.andM (eqM r_6 r_7) (eqM r_8 r_9) then (appM (nat_lit 8) s.2 [0]).bind fun r=>some r else (appM (nat_lit 8) s.2 [1]).bind fun r=>some r).bind fun o =>
 some (Sum.inl (wrap IntKind.i64 (s.1+1),o)) else some (Sum.inr s.2)) (0,[])).bind fun o=>some (o,0)
theorem c30:SpecOK Tryz.prog 30 ⟨as30,rs30,m30⟩ :=
 fc tabs28OK [] an30 Tryz.f30 fun x=>by kernel_rfl
def tabs30:Tabs:=Tabs.add tabs28 30 ⟨as30,rs30,m30⟩
theorem tabs30OK:TabOK Tryz.prog tabs30:=TabOK.add tabs28OK c30 Tryz.call30

/-! putlog/putloglaw25.FieldMatchesReference -/
def as3:List Ty:=[(.pair tI tB),tQ,tQ,tB,(.pair tI (.pair tI (.pair tL tL))),tI,tI,tI,tI]
def rs3:List Ty:=[.bool]
def an3:Ann:=.seq (.a) (.seq (.a) (.seq (.a) (.seq (.a) (.seq (.a) (.seq (.a) (.seq (.reg [0,1,0,4,0,16,0,64,192,448,1008,0,2048,0,8192,24576,57344,129024,262143,0,1048575] (ra 0 21 ([])) (z0::.s [2] []::z0::.s [2] []::z0::.s [2] []::z0::.s [2] []::za 4 (.s [2] []::z0::.s [2] []::za 4 (.s [] [6]::.s [6] [6]::[]))) (.a)) (.seq (.a) (.seq (.seq (.a) (.block (.loop ⟨[(112,.r (.c (.d (.d tI))))],(ra 26 6 (ra 33 7 (ra 41 17 (ra 113 186 ([]))))),[],[]⟩ [(.exit 0,⟨[],(ra 26 6 (ra 33 7 (ra 41 17 (ra 112 187 ([]))))),[],[]⟩),(.ret,⟨[(18,.r (.c (.d (.d .bool))))],(ra 26 6 (ra 33 7 (ra 41 17 (ra 112 187 ([]))))),[],[]⟩)] (.seq (.a) (.seq (.a) (.seq (.block (.seq (.a) (.seq (.a) (.seq (.a) (.seq (.seq (.reg [0,1,0,7,15,31,63,63,255,511,1023,2047,2047,8191,16383] (ra 0 15 ([])) (.s [8] []::z0::.s [8] []::za 12 ([])) (.a)) (.a)) (.seq (.a) (.seq (.seq (.a) (.block (.loop ⟨[(160,.r (.c (.d (.d tI))))],(ra 33 7 (ra 161 41 ([]))),[],[]⟩ [(.exit 2,⟨[],(ra 33 7 (ra 160 42 ([]))),[],[]⟩),(.ret,⟨[(18,.r (.c (.d (.d .bool))))],(ra 33 7 (ra 160 42 ([]))),[],[]⟩)] (.a)))) (.seq (.seq (.a) (.block (.loop ⟨[(207,.r (.c (.d (.d tI))))],(41::42::43::44::45::ra 208 25 ([])),[],[]⟩ [(.exit 4,⟨[],(41::42::43::44::45::ra 207 26 ([])),[],[]⟩),(.ret,⟨[(18,.r (.c (.d (.d .bool))))],(41::42::43::44::45::ra 207 26 ([])),[],[]⟩)] (.a)))) (.a))))))))) (.a))))))) (.a)))))))))
def m3:((Int×Int×Int×Int)×(List (Int×Int))×(List (Int×Int))×(Int×Int×Int)×(Int×Int×List Int×List Int)×Int×Int×Int×Int)→Option (Bool) :=
 fun x=>(m12 ()).bind fun r=>bif PE.notM r then some false else (m13 (x.1.1,x.1.2.1,6,60,x.2.1)).bind fun r_1=>(m13 (x.1.1,x.1.2.1,6,60,
 x.2.2.1)).bind fun r_2=>(m13 (x.1.2.2.1,x.1.2.2.2,3,50,x.2.2.1)).bind fun r_3=>(sliceM x.2.2.2.2.1.2.2.1 0 (min (lenM x.2.2.2.2.1.2.2.1) 50)).bind fun
 r_4=>(sliceM x.2.2.2.2.1.2.2.2 0 (min (lenM x.2.2.2.2.1.2.2.2) 50)).bind fun r_5=>(m14 ((r_1.1,r_1.2.1,r_1.2.2.1,r_1.2.2.2),x.2.2.2.1.1,
 x.2.2.2.1.2.1,x.2.2.2.1.2.2)).bind fun r_6=>(loopM (fun (s:Int)=>bif ltM s (lenM [(r_1.1,r_1.2.1,r_1.2.2.1,r_1.2.2.2),(r_3.1,r_3.2.1,r_3.2.2.1,
 r_3.2.2.2),(r_6.1,r_6.2.1,r_6.2.2.1,r_6.2.2.2),(x.2.2.2.2.1.1,x.2.2.2.2.1.2.1,r_4,r_5)]) then (idxM [(r_1.1,r_1.2.1,r_1.2.2.1,r_1.2.2.2),(r_3.1,
 r_3.2.1,r_3.2.2.1,r_3.2.2.2),(r_6.1,r_6.2.1,r_6.2.2.1,r_6.2.2.2),(x.2.2.2.2.1.1,x.2.2.2.2.1.2.1,r_4,r_5)] s).bind fun r_7=>(m15 (r_7.1,r_7.2.1,
 r_7.2.2.1,r_7.2.2.2)).bind fun r_8=>(m16 (r_7.1,r_7.2.1,r_7.2.2.1,r_7.2.2.2)).bind fun r_9=>(m17 (r_7.1,r_7.2.1,r_7.2.2.1,r_7.2.2.2)).bind fun r_10
 => (m18 (r_7.1,r_7.2.1,r_7.2.2.1,r_7.2.2.2)).bind fun r_11=>bif PE.orM (PE.orM (PE.notM (eqbM r_10 r_11)) (PE.notM (eqM r_8.1 r_9.1))) (PE.notM (eqM
 r_8.2 r_9.2)) then some (Sum.inr (Sum.inr false)) else (m19 (x.2.2.2.2.2.2.2.1,60)).bind fun r_12=>(m19 (x.2.2.2.2.2.1,wrap IntKind.i64 (7*wrap
 IntKind.i64 (1+r_12)))).bind fun r_13=>(m19 (x.2.2.2.2.2.2.1,wrap IntKind.i64 (7*wrap IntKind.i64 (1+r_12)))).bind fun r_14=>(loopM (fun (s_1 :
 Int)=>bif ltM s_1 (lenM [(x.2.2.2.2.2.1,x.2.2.2.2.2.2.1,x.2.2.2.2.2.2.2.1),(r_13,r_14,wrap IntKind.i64 (1+r_12))]) then (idxM [(x.2.2.2.2.2.1,
 x.2.2.2.2.2.2.1,x.2.2.2.2.2.2.2.1),(r_13,r_14,wrap IntKind.i64 (1+r_12))] s_1).bind fun r_15=>(m20 ((r_7.1,r_7.2.1,r_7.2.2.1,r_7.2.2.2),r_15.1,
 r_15.2.1,r_15.2.2)).bind fun r_16=>(m21 ((r_7.1,r_7.2.1,r_7.2.2.1,r_7.2.2.2),r_15.1,r_15.2.1,r_15.2.2)).bind fun r=>bif PE.orM (PE.orM (PE.notM
 (eqM r_16.1 r.1)) (PE.notM (eqM r_16.2.1 r.2.1))) (PE.notM (eqM r_16.2.2 r.2.2)) then some (Sum.inr (Sum.inr false)) else some (Sum.inl (wrap IntKind.i64 (s_1
 + 1))) else some (Sum.inr (Sum.inl ()))) 0).bind fun o=>Sum.elim (fun (t:Unit)=>(m19 (x.2.2.2.2.2.2.2.2,4)).bind fun r_15=>(loopM (fun (s_1:Int) =>
 bif ltM s_1 (lenM [x.2.2.2.2.2.2.2.2,r_15]) then (idxM [x.2.2.2.2.2.2.2.2,r_15] s_1).bind fun r_16=>(m22 ((r_7.1,r_7.2.1,r_7.2.2.1,r_7.2.2.2),
 r_16)).bind fun r_17=>(m23 ((r_7.1,r_7.2.1,r_7.2.2.1,r_7.2.2.2),r_16)).bind fun r_18=>(bif PE.notM (PE.notM (eqM r_17.2 r_18.2)) then m24 ((r_17.1.1,
 r_17.1.2.1,r_17.1.2.2.1,r_17.1.2.2.2),r_18.1.1,r_18.1.2.1,r_18.1.2.2.1,r_18.1.2.2.2) else some false).bind fun r=>bif PE.orM (PE.notM (eqM r_17.2
 r_18.2)) (PE.notM r) then some (Sum.inr (Sum.inr false)) else some (Sum.inl (wrap IntKind.i64 (s_1+1))) else some (Sum.inr (Sum.inl ()))) 0).bind fun o =>
 Sum.elim (fun (t:Unit)=>(m25 (r_7.1,r_7.2.1,r_7.2.2.1,r_7.2.2.2)).bind fun r_16=>(m26 (r_7.1,r_7.2.1,r_7.2.2.1,r_7.2.2.2)).bind fun r_17=>(m27
 ((r_7.1,r_7.2.1,r_7.2.2.1,r_7.2.2.2),r_2.1,r_2.2.1,r_2.2.2.1,r_2.2.2.2)).bind fun r_18=>(m28 ((r_7.1,r_7.2.1,r_7.2.2.1,r_7.2.2.2),r_2.1,r_2.2.1,
 r_2.2.2.1,r_2.2.2.2)).bind fun r_19=>(m29 ((r_2.1,r_2.2.1,r_2.2.2.1,r_2.2.2.2),r_7.1,r_7.2.1,r_7.2.2.1,r_7.2.2.2)).bind fun r_20=>(m30 ((r_2.1,
 r_2.2.1,r_2.2.2.1,r_2.2.2.2),r_7.1,r_7.2.1,r_7.2.2.1,r_7.2.2.2)).bind fun r_21=>(bif PE.notM (PE.orM (PE.orM (PE.notM (eqM r_16.2 r_17.2)) (PE.notM
 (eqM r_18.2 r_19.2))) (PE.notM (eqM r_20.2 r_21.2))) then m24 ((r_16.1.1,r_16.1.2.1,r_16.1.2.2.1,r_16.1.2.2.2),r_17.1.1,r_17.1.2.1,r_17.1.2.2.1,
 r_17.1.2.2.2) else some false).bind fun r_22=>(bif PE.notM (PE.orM (PE.orM (PE.orM (PE.notM (eqM r_16.2 r_17.2)) (PE.notM (eqM r_18.2 r_19.2))) (PE.notM
 (eqM r_20.2 r_21.2))) (PE.notM r_22)) then m24 ((r_18.1.1,r_18.1.2.1,r_18.1.2.2.1,r_18.1.2.2.2),r_19.1.1,r_19.1.2.1,r_19.1.2.2.1,r_19.1.2.2.2) else
 some false).bind fun r_23=>(bif PE.notM (PE.orM (PE.orM (PE.orM (PE.orM (PE.notM (eqM r_16.2 r_17.2)) (PE.notM (eqM r_18.2 r_19.2))) (PE.notM (eqM r_20.2
 r_21.2))) (PE.notM r_22)) (PE.notM r_23)) then m31 (r_20.1,r_21.1) else some false).bind fun r=>bif PE.orM (PE.orM (PE.orM (PE.orM (PE.orM (PE.notM (eqM
 r_16.2 r_17.2)) (PE.notM (eqM r_18.2 r_19.2))) (PE.notM (eqM r_20.2 r_21.2))) (PE.notM r_22)) (PE.notM r_23)) (PE.notM r) then some (Sum.inr (Sum.inr false))
 else some (Sum.inl (wrap IntKind.i64 (s+1)))) (fun (t:Bool)=>some (Sum.inr (Sum.inr t))) o) (fun (t:Bool)=>some (Sum.inr (Sum.inr t))) o else some
 (Sum.inr (Sum.inl ()))) 0).bind fun o=>Sum.elim (fun (t:Unit)=>some r) (fun (t:Bool)=>some t) o
theorem c3:SpecOK Tryz.prog 3 ⟨as3,rs3,m3⟩ :=
 fc tabs30OK [] an3 Tryz.f3 fun x=>by kernel_rfl
def tabs3:Tabs:=Tabs.add tabs30 3 ⟨as3,rs3,m3⟩
theorem tabs3OK:TabOK Tryz.prog tabs3:=TabOK.add tabs30OK c3 Tryz.call3
end
end Go.Proofs.YtdaaoecjdhipjaaGreatDoor



namespace Go.PE
def Le {α:Type} (a b:Option α):Prop:=∀ r,a=some r→b=some r
theorem Le.refl {α:Type} (a:Option α):Le a a:=fun _ h=>h
theorem Le.bind {α β:Type} {a a':Option α} {f f':α→Option β} (h:Le a a') (hf:∀ x,Le (f x) (f' x)):Le (Option.bind a f) (Option.bind a' f'):=by
 intro r hr
 cases a with
 | none=>cases hr
 | some x =>
  rw [h x rfl]
  exact hf x r hr
theorem Le.cond {α:Type} {c:Bool} {a a' b b':Option α} (h:Le a a') (h':Le b b'):Le (cond c a b) (cond c a' b'):=by
 cases c
 ·exact h'
 ·exact h
theorem Le.elim {α β γ:Type} {f f':α→Option γ} {g g':β→Option γ} (hf:∀ x,Le (f x) (f' x)) (hg:∀ x,Le (g x) (g' x)) (x:α⊕β):Le (Sum.elim f g x) (Sum.elim f' g' x):=by
 cases x with
 | inl a=>exact hf a
 | inr b=>exact hg b
theorem Le.iter {σ β:Type} {body body':σ→Option (σ⊕β)} (h:∀ s,Le (body s) (body' s)):∀ (n:Nat) (s:σ),Le (iterM body n s) (iterM body' n s)
 | 0,_=>Le.refl _
 | n+1,s=>by
  unfold iterM
  exact Le.bind (h s) fun x=>Le.elim (Le.iter h n) (fun _=>Le.refl _) x
def loopF {σ β:Type} (body:σ→Option (σ⊕β)) (s:σ):Option β:=iterM body 4096 s
theorem Le.loop {σ β:Type} {body body':σ→Option (σ⊕β)} (h:∀ s,Le (body s) (body' s)) (s:σ):Le (loopF body s) (loopM body' s) :=
 fun r hr=>loopM_iff.2 ⟨4096,Le.iter h 4096 s r hr⟩
def nilF {α β:Type} (xs:List α) (a b:Option β):Option β:=match xs with
 | []=>none
 | _::_=>b
theorem Le.nil {α β:Type} {xs:List α} {a a' b b':Option β} (h:Le b b'):Le (nilF xs a b) (nilM xs a' b'):=by
 cases xs with
 | nil=>intro r hr;cases hr
 | cons x xs=>exact h
theorem Le.out {α:Type} {a b:Option α} (h:Le a b) {r:α} (e:a=some r):b=some r:=h r e
attribute [irreducible] Le
end Go.PE
