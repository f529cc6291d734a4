/-
 Texts of this proof, put together: M1, M2, M3, M4, PA.
 No conditions.
-/
import Derived.Test.YtechphmljdgoaaaGreatDoorZ5
set_option linter.all false
namespace Go.Proofs.YtechphmljdgoaaaGreatDoor
open Go Go.Abs Go.PE Go.Proofs
open Go.IntKind (wrap)
set_option maxRecDepth 100000
noncomputable section

/-! (putlog/integer.number).over -/
def as83:List Ty:=[tL,tL]
def rs83:List Ty:=[tL,tL]
def an83:Ann:=.seq (.a) (.seq (.a) (.seq (.seq (.reg [] [] [z0,.r] (.call [] [] (.seq (.a) (.a)) (.a))) (.block (.call [] [] (.seq (.a) (.block (.loop ⟨[(3,.r (.c (.d (.d tI))))],(ra 7 12 ([])),[(2,.box [.d (.d tL)]),(3,.arr tI),(5,.lp .ready)],[]⟩ [(.exit 0,⟨[],(3::ra 7 12 ([])),[(2,.box [.d (.d tL)]),(3,.arr tI),(5,.lp .ready)],[]⟩)] (.seq (.a) (.seq (.block (.seq (.reg [] [] [z0,z0,.s [4] [],z0,z0,z0,.r,z0] (.call [] [] (.seq (.a) (.block (.seq (.a) (.seq (.a) (.seq (.a) (.seq (.reg [0,0,0,4,15,31] (ra 0 6 ([])) [.s [1] [],z0,z0,.k [],.s [3] [],.s [3] [3]] (.kp [] ⟨[(28,.r (.c (.d (.d tI))))],[],[],[]⟩ (.seq (.a) (.seq (.a) (.seq (.block (.loop ⟨[(5,.r (.c (.d (.d tI)))),(6,.r (.c (.d (.d tI))))],(7::ra 9 16 ([])),[],[]⟩ [(.exit 0,⟨[(5,.r (.c (.d (.d tI))))],(6::7::ra 9 16 ([])),[],[]⟩)] (.seq (.a) (.block (.seq (.a) (.seq (.reg [] [] [z0,z0,.r,z0] (.call [] [] (.seq (.a) (.seq (.reg [0,0,2,7,0,31,63,127] (ra 0 8 ([])) (.s [6] []::za 3 (.s [2] []::za 3 ([]))) (.a)) (.a))) (.a))) (.a))))))) (.a)))) (.a))) (.reg [0,0,0,0,12,28,62,127,255] (ra 0 9 ([])) [.s [2] [],.s [6] [],.s [1] [],z0,.s [3] [],.s [3] [],z0,z0,.s [2] [2]] (.a)))))))) (.a))) (.a))) (.a)))))) (.a)))) (.seq (.reg [0,1,0,3,15] [0,1,2,3,4] [.s [1] [],.s [3] [3],.s [2] [],.s [1] [1],.s [2] [2]] (.a)) (.a))))
def m83:(List Int×List Int)→Option (List Int×List Int) :=
 fun x=>(mkM (lenM x.1) (lenM x.1) (nat_lit 8) 0).bind fun r=>(loopM (fun (s:Int×List Int×List Int)=>bif leM 0 s.1 then (idxM x.1 s.1).bind fun r_1
 => (appM (nat_lit 8) [r_1] s.2.1).bind fun r_2=>(m113 r_2).bind fun r_3=>((loopM (fun (s_1:Int×Int)=>bif ltM s_1.1 s_1.2 then (shrM IntKind.u64
 (wrap IntKind.u64 (wrap .i64 (s_1.1+s_1.2))) 1).bind fun r_4=>(m114 (x.2,wrap .i64 (wrap .i64 r_4+1))).bind fun r_5=>(m88 (r_5,
 r_3)).bind fun r=>bif PE.notM (ltM 0 r) then some (Sum.inl (wrap .i64 (wrap .i64 r_4+1),s_1.2)) else some (Sum.inl (s_1.1,wrap IntKind.i64
 r_4)) else some (Sum.inr s_1.1)) (0,9999)).bind fun o=>some o).bind fun (ov:Int)=>(chkM s.1 (lenM s.2.2)).bind fun r_4=>(setM s.2.2 s.1 fun (x:Int)
 => some ov).bind fun r_5=>(chkM s.1 (lenM r_5)).bind fun r_6=>(idxM r_5 s.1).bind fun r_7=>(m114 (x.2,r_7)).bind fun r_8=>(m86 (r_3,r_8)).bind fun r
 => some (Sum.inl (wrap .i64 (s.1-1),r,r_5)) else some (Sum.inr (s.2.1,s.2.2))) (wrap .i64 (lenM x.1-1),[],r)).bind fun o=>(m113
 o.2).bind fun r=>some (r,o.1)
theorem c83:SpecOK Tryz.prog 83 ⟨as83,rs83,m83⟩ :=
 fc tabs114OK [] an83 Tryz.f83 fun x=>by kernel_rfl
def tabs83:Tabs:=Tabs.add tabs114 83 ⟨as83,rs83,m83⟩
theorem tabs83OK:TabOK Tryz.prog tabs83:=TabOK.add tabs114OK c83 Tryz.call83

/-! putlog/integer.Gcd -/
def as81:List Ty:=[.str,.str]
def rs81:List Ty:=[.str,tI]
def an81:Ann:=.seq (.a) (.seq (.a) (.seq (.a) (.seq (.reg [0,1,0,4,3,31] (ra 0 6 ([])) [z0,.s [0] [],z0,.s [1] [],z0,z0] (.a)) (.seq (.block (.loop ⟨[(9,.r (.c (.d (.d tL)))),(10,.r (.c (.d (.d tL))))],(11::12::ra 26 11 ([])),[],[]⟩ [(.exit 0,⟨[(9,.r (.c (.d (.d tL))))],(10::11::12::ra 26 11 ([])),[],[]⟩)] (.a))) (.a)))))
def m81:(List UInt8×List UInt8)→Option (List UInt8×Int) :=
 fun x=>(m82 (x.1,x.2)).bind fun r=>bif PE.notM r.2.2 then some ([],30) else (loopM (fun (s:List Int×List Int)=>bif ltM 0 (lenM s.2) then (m83 (s.1,
 s.2)).bind fun r=>some (Sum.inl (s.2,r.2)) else some (Sum.inr s.1)) (r.1.2,r.2.1.2)).bind fun o=>(m87 (false,o)).bind fun r=>some (r.1,r.2)
theorem c81:SpecOK Tryz.prog 81 ⟨as81,rs81,m81⟩ :=
 fc tabs83OK [] an81 Tryz.f81 fun x=>by kernel_rfl
def tabs81:Tabs:=Tabs.add tabs83 81 ⟨as81,rs81,m81⟩
theorem tabs81OK:TabOK Tryz.prog tabs81:=TabOK.add tabs83OK c81 Tryz.call81

/-! putlog/integer.one -/
def as85:List Ty:=[]
def rs85:List Ty:=[tL]
def an85:Ann:=.a
def m85:Unit→Option (List Int) :=
 fun x=>some [1]
theorem c85:SpecOK Tryz.prog 85 ⟨as85,rs85,m85⟩ :=
 fc tabs81OK [] an85 Tryz.f85 fun x=>by kernel_rfl
def tabs85:Tabs:=Tabs.add tabs81 85 ⟨as85,rs85,m85⟩
theorem tabs85OK:TabOK Tryz.prog tabs85:=TabOK.add tabs81OK c85 Tryz.call85

/-! putlog/integer.Div -/
def as56:List Ty:=[.str,.str]
def rs56:List Ty:=[.str,.str,tI]
def an56:Ann:=.seq (.a) (.seq (.a) (.seq (.a) (.seq (.a) (.seq (.join [(.norm,⟨[(10,.r (.c (.d (.d tL)))),(11,.r (.c (.d (.d tL))))],(ra 39 14 ([])),[],[]⟩)] (.seq (.a) (.cond (.reg [0,0,3,0,8,0,63,127,255] (ra 0 9 ([])) (za 4 (.s [1] []::za 4 ([]))) (.a)) (.a)))) (.a)))))
def m56:(List UInt8×List UInt8)→Option (List UInt8×List UInt8×Int) :=
 fun x=>(m82 (x.1,x.2)).bind fun r=>bif PE.orM (PE.notM r.2.2) (eqM (lenM r.2.1.2) 0) then some ([],[],30) else (m83 (r.1.2,r.2.1.2)).bind fun r_1 =>
 (bif PE.andM r.1.1 (ltM 0 (lenM r_1.2)) then (m85 ()).bind fun r_2=>(m84 (r_1.1,r_2)).bind fun r_3=>(m86 (r.2.1.2,r_1.2)).bind fun r=>some (r_3,r)
 else some (r_1.1,r_1.2)).bind fun o=>(m87 (PE.notM (eqbM r.1.1 r.2.1.1),o.1)).bind fun r_2=>bif PE.notM (eqM r_2.2 0) then some ([],[],r_2.2) else
 (m87 (false,o.2)).bind fun r=>some (r_2.1,r.1,0)
theorem c56:SpecOK Tryz.prog 56 ⟨as56,rs56,m56⟩ :=
 fc tabs85OK [] an56 Tryz.f56 fun x=>by kernel_rfl
def tabs56:Tabs:=Tabs.add tabs85 56 ⟨as56,rs56,m56⟩
theorem tabs56OK:TabOK Tryz.prog tabs56:=TabOK.add tabs85OK c56 Tryz.call56

/-! (*putlog/rational.work).quotient$1 -/
def as133:List Ty:=[.str,.str]
def rs133:List Ty:=[.str,tI]
def an133:Ann:=.a
def m133:(List UInt8×List UInt8)→Option (List UInt8×Int) :=
 fun x=>(m56 (x.1,x.2)).bind fun r=>some (r.1,r.2.2)
theorem c133:SpecOK Tryz.prog 133 ⟨as133,rs133,m133⟩ :=
 fc tabs56OK [] an133 Tryz.f133 fun x=>by kernel_rfl
def tabs133:Tabs:=Tabs.add tabs56 133 ⟨as133,rs133,m133⟩
theorem tabs133OK:TabOK Tryz.prog tabs133:=TabOK.add tabs56OK c133 Tryz.call133

/-! putlog/rational.Make -/
def as58:List Ty:=[.str,.str]
def rs58:List Ty:=[(.pair .str .str),tI]
def an58:Ann:=.seq (.a) (.seq (.a) (.seq (.reg [] [] [z0,z0,z0,.r,z0,z0,.s [0] [0],z0] (.call [] [(.norm,⟨[(20,.t [.s [.d (.d .str),.d (.d .str)],.c (.d (.d tI))])],[],[(1,.box [.d (.d .bool)])],[]⟩)] (.seq (.a) (.seq (.a) (.seq (.join [(.norm,⟨[(1,.r (.c (.d (.d .str)))),(2,.r (.c (.d (.d .str))))],(ra 19 9 ([])),[(1,.box [.d (.d .bool)])],[]⟩)] (.seq (.a) (.cond (.reg [] [] [z0,z0,.r,z0,z0,.r,z0,z0] (.call [] [(.norm,⟨[(24,.r (.c (.d (.d .str))))],[],[(1,.box [.d (.d .bool)])],[]⟩)] (.seq (.a) (.a)) (.call [] [(.norm,⟨[(27,.r (.c (.d (.d .str))))],[],[(1,.box [.d (.d .bool)])],[]⟩)] (.seq (.a) (.a)) (.a)))) (.a)))) (.seq (.reg [] [] [z0,z0,z0,.r,z0] (.call [] [(.norm,⟨[(31,.r (.c (.d (.d .str))))],[],[(1,.box [.d (.d .bool)])],[]⟩)] (.seq (.a) (.a)) (.a))) (.seq (.reg [] [] [z0,z0,z0,.r,z0,z0,z0,.r,z0,.s [] [3],.s [3] [3]] (.call [] [] (.seq (.a) (.seq (.reg [] [] [z0,z0,z0,.r,z0] (.call [] [(.norm,⟨[(10,.r (.c (.d (.d .str))))],[],[(1,.box [.d (.d .bool)])],[]⟩)] (.seq (.a) (.a)) (.a))) (.a))) (.call [] [] (.seq (.a) (.seq (.reg [] [] [z0,z0,z0,.r,z0] (.call [] [(.norm,⟨[(10,.r (.c (.d (.d .str))))],[],[(1,.box [.d (.d .bool)])],[]⟩)] (.seq (.a) (.a)) (.a))) (.a))) (.a)))) (.a)))))) (.a))) (.a)))
def m58:(List UInt8×List UInt8)→Option ((List UInt8×List UInt8)×Int) :=
 fun x=>(m80 x.1).bind fun r=>(bif PE.notM (PE.notM r) then m80 x.2 else some false).bind fun r_1=>(bif PE.orM (PE.orM (PE.notM r) (PE.notM r_1)) (eqsM x.2
 [(48:UInt8)]) then some ([],[],40,PE.orM (PE.notM r) (PE.notM r_1)) else ((m57 (x.2,[(48:UInt8)])).bind fun r_2=>bif ltM r_2 0 then (bif PE.orM
 (PE.notM r) (PE.notM r_1) then some ([],PE.orM (PE.notM r) (PE.notM r_1)) else (m108 ([(48:UInt8)],x.1)).bind fun r=>some (r.1,PE.notM (eqM r.2
 0))).bind fun (ov:List UInt8×Bool)=>(bif ov.2 then some ([],ov.2) else (m108 ([(48:UInt8)],x.2)).bind fun r=>some (r.1,PE.notM (eqM r.2 0))).bind
 fun (ov_1:List UInt8×Bool)=>some (ov.1,ov_1.1,ov_1.2) else some (x.1,x.2,PE.orM (PE.notM r) (PE.notM r_1))).bind fun o=>(bif o.2.2 then some ([],
 o.2.2) else (m81 (o.1,o.2.1)).bind fun r=>some (r.1,PE.notM (eqM r.2 0))).bind fun (ov:List UInt8×Bool)=>(bif ov.2 then some ([],ov.2) else (m133
 (o.1,ov.1)).bind fun r=>some (r.1,PE.notM (eqM r.2 0))).bind fun (ov_1:List UInt8×Bool)=>(bif ov_1.2 then some ([],ov_1.2) else (m133 (o.2.1,
 ov.1)).bind fun r=>some (r.1,PE.notM (eqM r.2 0))).bind fun (ov:List UInt8×Bool)=>bif ov.2 then some ([],[],40,ov.2) else some (ov_1.1,ov.1,0,
 ov.2)).bind fun (ov:List UInt8×List UInt8×Int×Bool)=>some ((ov.1,ov.2.1),ov.2.2.1)
theorem c58:SpecOK Tryz.prog 58 ⟨as58,rs58,m58⟩ :=
 fc tabs133OK [] an58 Tryz.f58 fun x=>by kernel_rfl
def tabs58:Tabs:=Tabs.add tabs133 58 ⟨as58,rs58,m58⟩
theorem tabs58OK:TabOK Tryz.prog tabs58:=TabOK.add tabs133OK c58 Tryz.call58

/-! putlog/rational.Of -/
def as25:List Ty:=[tI,tI]
def rs25:List Ty:=[(.pair .str .str),tI]
def an25:Ann:=.a
def m25:(Int×Int)→Option ((List UInt8×List UInt8)×Int) :=
 fun x=>(m59 x.1).bind fun r=>(m59 x.2).bind fun r_1=>(m58 (r,r_1)).bind fun r=>some ((r.1.1,r.1.2),r.2)
theorem c25:SpecOK Tryz.prog 25 ⟨as25,rs25,m25⟩ :=
 fc tabs58OK [] an25 Tryz.f25 fun x=>by kernel_rfl
def tabs25:Tabs:=Tabs.add tabs58 25 ⟨as25,rs25,m25⟩
theorem tabs25OK:TabOK Tryz.prog tabs25:=TabOK.add tabs58OK c25 Tryz.call25

/-! putlog/field.left -/
def as48:List Ty:=[tP,tP,tB]
def rs48:List Ty:=[tI]
def an48:Ann:=.a
def m48:((Int×Int)×(Int×Int)×Int×Int×Int)→Option (Int) :=
 fun x=>some (wrap .i64 (wrap .i64 (wrap .i64 (x.2.1.1-x.1.1)*wrap .i64 (x.2.2.2.1-wrap .i64 (x.1.2*x.2.2.2.2))) -
 wrap .i64 (wrap .i64 (x.2.1.2-x.1.2)*wrap .i64 (x.2.2.1-wrap .i64 (x.1.1*x.2.2.2.2)))))
theorem c48:SpecOK Tryz.prog 48 ⟨as48,rs48,m48⟩ :=
 fc tabs25OK [] an48 Tryz.f48 fun x=>by kernel_rfl
def tabs48:Tabs:=Tabs.add tabs25 48 ⟨as48,rs48,m48⟩
theorem tabs48OK:TabOK Tryz.prog tabs48:=TabOK.add tabs25OK c48 Tryz.call48

/-! putlog/field.gcd -/
def as93:List Ty:=[tI,tI]
def rs93:List Ty:=[tI]
def an93:Ann:=.seq (.a) (.seq (.block (.loop ⟨[(0,.r (.c (.d (.d tI)))),(1,.r (.c (.d (.d tI))))],(ra 5 6 ([])),[],[]⟩ [(.exit 0,⟨[(0,.r (.c (.d (.d tI))))],(1::ra 5 6 ([])),[],[]⟩)] (.seq (.a) (.block (.reg [0,0,0,6,3,31] (ra 0 6 ([])) (za 6 ([])) (.a)))))) (.a))
def m93:(Int×Int)→Option (Int) :=
 fun x=>(loopM (fun (s:Int×Int)=>bif PE.notM (eqM s.2 0) then (remM s.1 s.2).bind fun r=>some (Sum.inl (s.2,r)) else some (Sum.inr s.1)) (x.1,
 x.2)).bind fun o=>some (max o (wrap .i64 (negM o)))
theorem c93:SpecOK Tryz.prog 93 ⟨as93,rs93,m93⟩ :=
 fc tabs48OK [] an93 Tryz.f93 fun x=>by kernel_rfl
def tabs93:Tabs:=Tabs.add tabs48 93 ⟨as93,rs93,m93⟩
theorem tabs93OK:TabOK Tryz.prog tabs93:=TabOK.add tabs48OK c93 Tryz.call93

/-! putlog/field.reduced -/
def as72:List Ty:=[tB]
def rs72:List Ty:=[tB]
def an72:Ann:=.seq (.a) (.seq (.reg [0,1,0,4,15,0,32,127,255] (ra 0 9 ([])) [z0,.s [0] [],z0,.s [0] [],z0,z0,.s [0] [],z0,z0] (.a)) (.seq (.join [(.norm,⟨[(3,.r (.c (.d (.d tI))))],[12,13,14,15,16],[],[]⟩)] (.a)) (.seq (.reg [0,1,0,7,0,16,0,112,0,256,0,1792,4095,8191] (ra 0 14 ([])) (z0::.s [0] []::za 3 (.s [0] []::za 3 (.s [0] []::za 3 (.s [1] [1]::[])))) (.a)) (.a))))
def m72:(Int×Int×Int)→Option (Int×Int×Int) :=
 fun x=>(m93 (x.1,x.2.1)).bind fun r=>(m93 (r,x.2.2)).bind fun r_1=>(bif ltM x.2.2 0 then some (wrap .i64 (negM r_1)) else some r_1).bind fun o =>
 (divM .i64 x.1 o).bind fun r_2=>(divM .i64 x.2.1 o).bind fun r_3=>(divM .i64 x.2.2 o).bind fun r=>some (r_2,r_3,r)
theorem c72:SpecOK Tryz.prog 72 ⟨as72,rs72,m72⟩ :=
 fc tabs93OK [] an72 Tryz.f72 fun x=>by kernel_rfl
def tabs72:Tabs:=Tabs.add tabs93 72 ⟨as72,rs72,m72⟩
theorem tabs72OK:TabOK Tryz.prog tabs72:=TabOK.add tabs93OK c72 Tryz.call72

/-! putlog/rational.Valid -/
def as55:List Ty:=[(.pair .str .str)]
def rs55:List Ty:=[.bool]
def an55:Ann:=.a
def m55:(List UInt8×List UInt8)→Option (Bool) :=
 fun x=>(m80 x.1).bind fun r=>(bif PE.notM (PE.notM r) then m80 x.2 else some false).bind fun r_1=>(bif PE.notM (PE.orM (PE.notM r) (PE.notM r_1)) then m57
 (x.2,[(48:UInt8)]) else some 0).bind fun r_2=>bif PE.orM (PE.orM (PE.notM r) (PE.notM r_1)) (leM r_2 0) then some false else (m81 (x.1,x.2)).bind fun r
 => some (PE.andM (eqM r.2 0) (eqsM r.1 [(49:UInt8)]))
theorem c55:SpecOK Tryz.prog 55 ⟨as55,rs55,m55⟩ :=
 fc tabs72OK [] an55 Tryz.f55 fun x=>by kernel_rfl
def tabs55:Tabs:=Tabs.add tabs72 55 ⟨as55,rs55,m55⟩
theorem tabs55OK:TabOK Tryz.prog tabs55:=TabOK.add tabs72OK c55 Tryz.call55

/-! (putlog/integer.number).times -/
def as132:List Ty:=[tL,tL]
def rs132:List Ty:=[tL]
def an132:Ann:=.seq (.a) (.seq (.a) (.seq (.seq (.reg [] [] [z0,.r] (.call [] [] (.seq (.a) (.a)) (.a))) (.block (.call [] [] (.seq (.a) (.block (.loop ⟨[(3,.r (.c (.d (.d tI))))],(ra 7 12 ([])),[(1,.box [.d (.d tL)]),(3,.lp .ready)],[]⟩ [(.exit 0,⟨[],(3::ra 7 12 ([])),[(1,.box [.d (.d tL)]),(3,.lp .ready)],[]⟩)] (.seq (.a) (.seq (.block (.seq (.reg [] [] [z0,z0,.s [2] [],z0,z0,z0,.r,z0] (.call [] [] (.seq (.a) (.block (.seq (.join [(.norm,⟨[],(ra 12 6 ([])),[(1,.box [.d (.d tL)])],[]⟩)] (.a)) (.reg [0,0,0,6,15,31] (ra 0 6 ([])) (.s [1] []::.s [0] []::za 3 (.s [1] [1]::[])) (.a))))) (.a))) (.a))) (.a)))))) (.a)))) (.a)))
def m132:(List Int×List Int)→Option (List Int) :=
 fun x=>(loopM (fun (s:Int×List Int)=>bif leM 0 s.1 then (idxM x.2 s.1).bind fun r=>(bif ltM 0 (lenM s.2) then (appM (nat_lit 8) [0] s.2).bind fun r =>
 some r else some s.2).bind fun o=>(m114 (x.1,r)).bind fun r_1=>(m84 (o,r_1)).bind fun r=>some (Sum.inl (wrap .i64 (s.1-1),r)) else some
 (Sum.inr s.2)) (wrap .i64 (lenM x.2-1),[])).bind fun o=>some o
theorem c132:SpecOK Tryz.prog 132 ⟨as132,rs132,m132⟩ :=
 fc tabs55OK [] an132 Tryz.f132 fun x=>by kernel_rfl
def tabs132:Tabs:=Tabs.add tabs55 132 ⟨as132,rs132,m132⟩
theorem tabs132OK:TabOK Tryz.prog tabs132:=TabOK.add tabs55OK c132 Tryz.call132

/-! putlog/integer.Mul -/
def as107:List Ty:=[.str,.str]
def rs107:List Ty:=[.str,tI]
def an107:Ann:=.seq (.a) (.seq (.a) (.seq (.a) (.seq (.reg [0,1,0,4,15,0,32,0,128,480,1023,2047,4095,4095,16383,32767] (ra 0 16 ([])) (z0::.s [0] []::z0::.s [1] []::z0::z0::.s [0] []::z0::.s [1] []::za 7 ([])) (.a)) (.a))))
def m107:(List UInt8×List UInt8)→Option (List UInt8×Int) :=
 fun x=>(m82 (x.1,x.2)).bind fun r=>bif PE.notM r.2.2 then some ([],30) else (m132 (r.1.2,r.2.1.2)).bind fun r_1=>(m87 (PE.notM (eqbM r.1.1 r.2.1.1),
 r_1)).bind fun r=>some (r.1,r.2)
theorem c107:SpecOK Tryz.prog 107 ⟨as107,rs107,m107⟩ :=
 fc tabs132OK [] an107 Tryz.f107 fun x=>by kernel_rfl
def tabs107:Tabs:=Tabs.add tabs132 107 ⟨as107,rs107,m107⟩
theorem tabs107OK:TabOK Tryz.prog tabs107:=TabOK.add tabs132OK c107 Tryz.call107

/-! putlog/integer.Add -/
def as74:List Ty:=[.str,.str]
def rs74:List Ty:=[.str,tI]
def an74:Ann:=.a
def m74:(List UInt8×List UInt8)→Option (List UInt8×Int) :=
 fun x=>(m82 (x.1,x.2)).bind fun r=>bif PE.notM r.2.2 then some ([],30) else (m95 ((r.1.1,r.1.2),r.2.1.1,r.2.1.2)).bind fun r_1=>(m87 (r_1.1,
 r_1.2)).bind fun r=>some (r.1,r.2)
theorem c74:SpecOK Tryz.prog 74 ⟨as74,rs74,m74⟩ :=
 fc tabs107OK [] an74 Tryz.f74 fun x=>by kernel_rfl
def tabs74:Tabs:=Tabs.add tabs107 74 ⟨as74,rs74,m74⟩
theorem tabs74OK:TabOK Tryz.prog tabs74:=TabOK.add tabs107OK c74 Tryz.call74

/-! putlog/rational.Add -/
def as49:List Ty:=[(.pair .str .str),(.pair .str .str)]
def rs49:List Ty:=[(.pair .str .str),tI]
def an49:Ann:=.seq (.a) (.seq (.reg [] [] [.s [0] [],.s [1] [],.r,z0,z0,.s [2] [2],z0] (.call [] [] (.seq (.a) (.seq (.a) (.seq (.reg [] [] [z0,.s [3] [],.s [4] [],z0,.r] (.call [] [] (.seq (.a) (.block (.loop ⟨[(8,.r (.c (.d (.d tI))))],(5::ra 9 16 ([])),[(6,.box [.d (.d .bool)])],[]⟩ [(.exit 0,⟨[],(5::ra 8 17 ([])),[(6,.box [.d (.d .bool)])],[]⟩)] (.a)))) (.a))) (.seq (.reg [0,0,0,0,8,0,32,124,0,0,512,0,2048,8188,16383,32767] (ra 0 16 ([])) [z0,z0,z0,z0,.s [3] [],z0,.s [4] [],.k [6],z0,z0,.s [4] [],z0,.s [3] [],.k [6],.k [6],z0] (.kp [] ⟨[(24,.r (.c (.d (.d .str))))],[],[(6,.box [.d (.d .bool)])],[]⟩ (.seq (.a) (.seq (.reg [] [] [z0,z0,z0,.r,z0] (.call [] [(.norm,⟨[(10,.r (.c (.d (.d .str))))],[],[(6,.box [.d (.d .bool)])],[]⟩)] (.seq (.a) (.a)) (.a))) (.a))) (.kp [] ⟨[(30,.r (.c (.d (.d .str))))],[],[(6,.box [.d (.d .bool)])],[]⟩ (.seq (.a) (.seq (.reg [] [] [z0,z0,z0,.r,z0] (.call [] [(.norm,⟨[(10,.r (.c (.d (.d .str))))],[],[(6,.box [.d (.d .bool)])],[]⟩)] (.seq (.a) (.a)) (.a))) (.a))) (.kp [] ⟨[(31,.r (.c (.d (.d .str))))],[],[(6,.box [.d (.d .bool)])],[]⟩ (.seq (.a) (.a)) (.a))))) (.seq (.reg [] [] [z0,z0,z0,z0,.s [3] [],z0,.s [4] [],.r,.r,z0,z0,.s [5] [5],z0] (.call [] [] (.seq (.a) (.seq (.reg [] [] [z0,z0,z0,.r,z0] (.call [] [(.norm,⟨[(10,.r (.c (.d (.d .str))))],[],[(6,.box [.d (.d .bool)])],[]⟩)] (.seq (.a) (.a)) (.a))) (.a))) (.call [] [(.norm,⟨[(40,.t [.s [.d (.d .str),.d (.d .str)],.c (.d (.d tI))])],[],[(6,.box [.d (.d .bool)])],[]⟩)] (.seq (.a) (.seq (.a) (.seq (.join [(.norm,⟨[(1,.r (.c (.d (.d .str)))),(2,.r (.c (.d (.d .str))))],(ra 19 9 ([])),[(6,.box [.d (.d .bool)])],[]⟩)] (.seq (.a) (.cond (.reg [] [] [z0,z0,.r,z0,z0,.r,z0,z0] (.call [] [(.norm,⟨[(24,.r (.c (.d (.d .str))))],[],[(6,.box [.d (.d .bool)])],[]⟩)] (.seq (.a) (.a)) (.call [] [(.norm,⟨[(27,.r (.c (.d (.d .str))))],[],[(6,.box [.d (.d .bool)])],[]⟩)] (.seq (.a) (.a)) (.a)))) (.a)))) (.seq (.reg [] [] [z0,z0,z0,.r,z0] (.call [] [(.norm,⟨[(31,.r (.c (.d (.d .str))))],[],[(6,.box [.d (.d .bool)])],[]⟩)] (.seq (.a) (.a)) (.a))) (.seq (.reg [] [] [z0,z0,z0,.r,z0,z0,z0,.r,z0,.s [] [8],.s [8] [8]] (.call [] [] (.seq (.a) (.seq (.reg [] [] [z0,z0,z0,.r,z0] (.call [] [(.norm,⟨[(10,.r (.c (.d (.d .str))))],[],[(6,.box [.d (.d .bool)])],[]⟩)] (.seq (.a) (.a)) (.a))) (.a))) (.call [] [] (.seq (.a) (.seq (.reg [] [] [z0,z0,z0,.r,z0] (.call [] [(.norm,⟨[(10,.r (.c (.d (.d .str))))],[],[(6,.box [.d (.d .bool)])],[]⟩)] (.seq (.a) (.a)) (.a))) (.a))) (.a)))) (.a)))))) (.a)))) (.a)))))) (.a))) (.a))
def m49:((List UInt8×List UInt8)×List UInt8×List UInt8)→Option ((List UInt8×List UInt8)×Int) :=
 fun x=>(loopM (fun (s:Int×Bool)=>bif ltM s.1 (lenM [(x.1.1,x.1.2),(x.2.1,x.2.2)]) then (idxM [(x.1.1,x.1.2),(x.2.1,x.2.2)] s.1).bind fun r=>(bif
 PE.notM s.2 then m55 (r.1,r.2) else some false).bind fun r=>some (Sum.inl (wrap .i64 (s.1+1),PE.orM s.2 (PE.notM r))) else some (Sum.inr s.2))
 (0,false)).bind fun o=>((bif o then some ([],o) else (m107 (x.1.1,x.2.2)).bind fun r=>some (r.1,PE.notM (eqM r.2 0))).bind fun (ov:List UInt8 ×
 Bool)=>some (ov.1,ov.2)).bind fun (ov:List UInt8×Bool)=>((bif ov.2 then some ([],ov.2) else (m107 (x.2.1,x.1.2)).bind fun r=>some (r.1,PE.notM
 (eqM r.2 0))).bind fun (ov:List UInt8×Bool)=>some (ov.1,ov.2)).bind fun (ov_1:List UInt8×Bool)=>(bif ov_1.2 then some ([],ov_1.2) else (m74
 (ov.1,ov_1.1)).bind fun r=>some (r.1,PE.notM (eqM r.2 0))).bind fun (ov_2:List UInt8×Bool)=>(bif ov_2.2 then some ([],ov_2.2) else (m107 (x.1.2,
 x.2.2)).bind fun r=>some (r.1,PE.notM (eqM r.2 0))).bind fun (ov_3:List UInt8×Bool)=>(bif PE.orM ov_3.2 (eqsM ov_3.1 [(48:UInt8)]) then some ([],
 [],40,ov_3.2) else ((m57 (ov_3.1,[(48:UInt8)])).bind fun r=>bif ltM r 0 then (bif ov_3.2 then some ([],ov_3.2) else (m108 ([(48:UInt8)],
 ov_2.1)).bind fun r=>some (r.1,PE.notM (eqM r.2 0))).bind fun (ov_4:List UInt8×Bool)=>(bif ov_4.2 then some ([],ov_4.2) else (m108 ([(48:UInt8)],
 ov_3.1)).bind fun r=>some (r.1,PE.notM (eqM r.2 0))).bind fun (ov:List UInt8×Bool)=>some (ov_4.1,ov.1,ov.2) else some (ov_2.1,ov_3.1,
 ov_3.2)).bind fun o_1=>(bif o_1.2.2 then some ([],o_1.2.2) else (m81 (o_1.1,o_1.2.1)).bind fun r=>some (r.1,PE.notM (eqM r.2 0))).bind fun (ov_4:List
 UInt8×Bool)=>(bif ov_4.2 then some ([],ov_4.2) else (m133 (o_1.1,ov_4.1)).bind fun r=>some (r.1,PE.notM (eqM r.2 0))).bind fun (ov_5:List UInt8 ×
 Bool)=>(bif ov_5.2 then some ([],ov_5.2) else (m133 (o_1.2.1,ov_4.1)).bind fun r=>some (r.1,PE.notM (eqM r.2 0))).bind fun (ov:List UInt8×Bool) =>
 bif ov.2 then some ([],[],40,ov.2) else some (ov_5.1,ov.1,0,ov.2)).bind fun (ov:List UInt8×List UInt8×Int×Bool)=>some ((ov.1,ov.2.1),
 ov.2.2.1)
theorem c49:SpecOK Tryz.prog 49 ⟨as49,rs49,m49⟩ :=
 fc tabs74OK [] an49 Tryz.f49 fun x=>by kernel_rfl
def tabs49:Tabs:=Tabs.add tabs74 49 ⟨as49,rs49,m49⟩
theorem tabs49OK:TabOK Tryz.prog tabs49:=TabOK.add tabs74OK c49 Tryz.call49

/-! putlog/field.Over -/
def as17:List Ty:=[(.pair tI (.pair tI (.pair tL tL))),tQ]
def rs17:List Ty:=[(.pair .str .str),(.pair .str .str),tI]
def an17:Ann:=.seq (.a) (.seq (.a) (.seq (.seq (.reg [] [] [.s [0] [],z0,z0,z0,z0,z0,z0,z0,z0,z0,z0,.k [],z0] (.call [] [(.norm,⟨[(25,.r (.c (.d (.d .bool))))],[],[],[]⟩)] (.seq (.a) (.seq (.reg [] [] [z0,z0,.r,z0,z0] (.call [] [(.norm,⟨[(7,.r (.c (.d (.d tI))))],[],[],[]⟩)] (.seq (.a) (.seq (.seq (.a) (.block (.loop ⟨[(8,.r (.c (.d (.d tI))))],(5::ra 9 8 (18::[])),[],[]⟩ [(.exit 0,⟨[],(5::ra 8 9 (18::[])),[],[]⟩),(.ret,⟨[(4,.r (.c (.d (.d tI))))],(5::ra 8 11 ([])),[],[]⟩)] (.seq (.a) (.seq (.a) (.seq (.block (.seq (.a) (.seq (.reg [] [] [z0,z0,z0,z0,z0,.r] (.call [] [] (.seq (.a) (.a)) (.a))) (.a)))) (.a))))))) (.a))) (.a))) (.a))) (.a))) (.a)) (.seq (.a) (.seq (.seq (.a) (.block (.loop ⟨[(31,.r (.c (.d (.d tI))))],(10::ra 32 12 ([])),[(3,.box [.h 4])],[.arr tB]⟩ [(.exit 0,⟨[],(10::ra 31 13 ([])),[(3,.box [.h 4])],[.arr tB]⟩)] (.a)))) (.seq (.reg [] [] [.s [0] [],z0,.r,z0,z0,z0,.s [] [12],.s [] [13],.s [12] [12],.s [13] [13]] (.call [] [] (.seq (.a) (.seq (.reg [0,0,0,4,14,31,0,0,0,256,959,2047,4095,8191] (ra 0 14 ([])) [z0,.s [5] [],z0,.s [5] [],.k [8,9],.k [],z0,.s [5] [],z0,.s [5] [],.k [10,11],.k [],.s [6] [6],.s [7] [7]] (.kp [] ⟨[(10,.r (.c (.f 92 [] [.p 8 0,.p 9 0])))],[],[],[.box [.d (.d tL)],.box [.d (.d tI),.d (.d tI),.d (.d tL),.d (.d tL)]]⟩ (.seq (.a) (.a)) (.kp [] ⟨[(11,.r (.s [.d (.d .str),.d (.d .str)]))],[],[],[]⟩ (.seq (.a) (.seq (.a) (.seq (.seq (.reg [] [] [.s [0] [],.r] (.call [] [] (.seq (.a) (.a)) (.a))) (.block (.call [] [] (.seq (.a) (.block (.loop ⟨[(9,.r (.c (.d (.d tI))))],(3::4::5::6::ra 10 39 ([])),[(12,.box [.d (.d .str),.d (.d .str)]),(14,.lp .ready)],[]⟩ [(.exit 0,⟨[],(3::4::5::6::ra 9 40 ([])),[(12,.box [.d (.d .str),.d (.d .str)]),(14,.lp .ready)],[]⟩)] (.seq (.a) (.seq (.a) (.seq (.block (.seq (.a) (.seq (.a) (.block (.loop ⟨[(14,.r (.c (.d (.d tI))))],(4::5::6::ra 15 33 ([])),[(12,.box [.d (.d .str),.d (.d .str)]),(14,.lp .ready)],[]⟩ [(.exit 2,⟨[],(4::5::6::ra 14 34 ([])),[(12,.box [.d (.d .str),.d (.d .str)]),(14,.lp .ready)],[]⟩)] (.seq (.a) (.seq (.a) (.seq (.block (.seq (.a) (.seq (.a) (.seq (.reg [] [] [z0,.s [15] [],z0,z0,z0,z0,.s [16] [],z0,.r,z0,z0,z0,.s [15] [],.s [16] [],z0,z0,z0,z0,z0,.r,z0,z0] (.call [] [] (.seq (.a) (.block (.seq (.a) (.seq (.join [(.norm,⟨[(8,.r (.c (.h 18)))],(9::ra 28 17 ([])),[],[.arr tB]⟩)] (.seq (.a) (.block (.seq (.seq (.a) (.seq (.a) (.seq (.block (.seq (.a) (.seq (.reg [0,0,2,6,0,16,48,112,240,511,1023] (ra 0 11 ([])) [z0,z0,.s [17] [],.s [17] [],z0,z0,z0,.s [17] [],.s [17] [],.r,z0] (.call [] [] (.seq (.a) (.seq (.a) (.seq (.a) (.seq (.seq (.a) (.block (.loop ⟨[(17,.r (.c (.d (.d tI))))],(9::10::11::12::13::ra 18 71 ([])),[(20,.box [.h 21])],[.arr tB]⟩ [(.exit 0,⟨[],(9::10::11::12::13::ra 17 72 ([])),[(20,.box [.h 21])],[.arr tB]⟩)] (.seq (.a) (.seq (.a) (.seq (.join [(.norm,⟨[],(9::10::11::12::13::ra 19 69 ([])),[(20,.box [.h 22]),(21,.gone)],[.arr tB]⟩)] (.block (.seq (.a) (.seq (.a) (.seq (.reg [0,0,0,7,0,0,0,127,255,511] (ra 0 10 ([])) (.s [18] []::.s [19] []::.s [22] []::z0::.s [18] []::.s [19] []::.s [23] []::za 3 ([])) (.a)) (.seq (.join [(.norm,⟨[],[38,39,40,41,42],[(20,.box [.h 24]),(21,.gone)],[.arr tB]⟩)] (.seq (.a) (.cond (.reg [] [] [z0,.s [22] [],.r] (.call [] [(.norm,⟨[(42,.t [])],[],[(20,.box [.h 24]),(21,.gone)],[.arr tB]⟩)] (.seq (.a) (.seq (.reg [0,1,3,7,15,15,47,111,255,511,15,2047,4095] (ra 0 13 ([])) [.s [20] [],.s [21] [],z0,z0,.s [20] [],.s [20] [],.s [21] [],z0,.s [21] [],.s [21] [],.s [24] [],z0,z0] (.a)) (.a))) (.a))) (.a)))) (.seq (.a) (.cond (.reg [] [] [z0,z0,.s [22] [],z0,z0,z0,.s [23] [],z0,z0,z0,z0,.s [22] [],z0,z0,z0,.s [23] [],z0,z0,z0,z0,.s [22] [],z0,z0,z0,.s [23] [],z0,z0,z0,z0,z0,.r] (.call [] [(.norm,⟨[(87,.t [])],[],[(20,.box [.h 25]),(24,.gone)],[.arr tB]⟩)] (.seq (.a) (.seq (.reg [0,1,3,7,15,15,47,111,255,511,15,2047,4095] (ra 0 13 ([])) [.s [20] [],.s [24] [],z0,z0,.s [20] [],.s [20] [],.s [24] [],z0,.s [24] [],.s [24] [],.s [25] [],z0,z0] (.a)) (.a))) (.a))) (.a))))))))) (.a))))))) (.a))))) (.a))) (.a)))) (.a)))) (.seq (.seq (.a) (.seq (.a) (.seq (.block (.seq (.a) (.seq (.reg [0,0,2,6,0,16,48,112,240,511,1023] (ra 0 11 ([])) [z0,z0,.s [17] [],.s [17] [],z0,z0,z0,.s [17] [],.s [17] [],.r,z0] (.call [] [] (.seq (.a) (.seq (.a) (.seq (.a) (.seq (.seq (.a) (.block (.loop ⟨[(17,.r (.c (.d (.d tI))))],(9::10::11::12::13::ra 18 71 ([])),[(24,.box [.h 25])],[.arr tB]⟩ [(.exit 0,⟨[],(9::10::11::12::13::ra 17 72 ([])),[(24,.box [.h 25])],[.arr tB]⟩)] (.seq (.a) (.seq (.a) (.seq (.join [(.norm,⟨[],(9::10::11::12::13::ra 19 69 ([])),[(24,.box [.h 26]),(25,.gone)],[.arr tB]⟩)] (.block (.seq (.a) (.seq (.a) (.seq (.reg [0,0,0,7,0,0,0,127,255,511] (ra 0 10 ([])) (.s [22] []::.s [23] []::.s [26] []::z0::.s [22] []::.s [23] []::.s [27] []::za 3 ([])) (.a)) (.seq (.join [(.norm,⟨[],[38,39,40,41,42],[(24,.box [.h 28]),(25,.gone)],[.arr tB]⟩)] (.seq (.a) (.cond (.reg [] [] [z0,.s [26] [],.r] (.call [] [(.norm,⟨[(42,.t [])],[],[(24,.box [.h 28]),(25,.gone)],[.arr tB]⟩)] (.seq (.a) (.seq (.reg [0,1,3,7,15,15,47,111,255,511,15,2047,4095] (ra 0 13 ([])) [.s [24] [],.s [25] [],z0,z0,.s [24] [],.s [24] [],.s [25] [],z0,.s [25] [],.s [25] [],.s [28] [],z0,z0] (.a)) (.a))) (.a))) (.a)))) (.seq (.a) (.cond (.reg [] [] [z0,z0,.s [26] [],z0,z0,z0,.s [27] [],z0,z0,z0,z0,.s [26] [],z0,z0,z0,.s [27] [],z0,z0,z0,z0,.s [26] [],z0,z0,z0,.s [27] [],z0,z0,z0,z0,z0,.r] (.call [] [(.norm,⟨[(87,.t [])],[],[(24,.box [.h 29]),(28,.gone)],[.arr tB]⟩)] (.seq (.a) (.seq (.reg [0,1,3,7,15,15,47,111,255,511,15,2047,4095] (ra 0 13 ([])) [.s [24] [],.s [28] [],z0,z0,.s [24] [],.s [24] [],.s [28] [],z0,.s [28] [],.s [28] [],.s [29] [],z0,z0] (.a)) (.a))) (.a))) (.a))))))))) (.a))))))) (.a))))) (.a))) (.a)))) (.a)))) (.seq (.seq (.a) (.seq (.a) (.seq (.block (.seq (.a) (.seq (.reg [0,0,2,6,0,16,48,112,240,511,1023] (ra 0 11 ([])) [z0,z0,.s [17] [],.s [17] [],z0,z0,z0,.s [17] [],.s [17] [],.r,z0] (.call [] [] (.seq (.a) (.seq (.a) (.seq (.a) (.seq (.seq (.a) (.block (.loop ⟨[(17,.r (.c (.d (.d tI))))],(9::10::11::12::13::ra 18 71 ([])),[(28,.box [.h 29])],[.arr tB]⟩ [(.exit 0,⟨[],(9::10::11::12::13::ra 17 72 ([])),[(28,.box [.h 29])],[.arr tB]⟩)] (.seq (.a) (.seq (.a) (.seq (.join [(.norm,⟨[],(9::10::11::12::13::ra 19 69 ([])),[(28,.box [.h 30]),(29,.gone)],[.arr tB]⟩)] (.block (.seq (.a) (.seq (.a) (.seq (.reg [0,0,0,7,0,0,0,127,255,511] (ra 0 10 ([])) (.s [26] []::.s [27] []::.s [30] []::z0::.s [26] []::.s [27] []::.s [31] []::za 3 ([])) (.a)) (.seq (.join [(.norm,⟨[],[38,39,40,41,42],[(28,.box [.h 32]),(29,.gone)],[.arr tB]⟩)] (.seq (.a) (.cond (.reg [] [] [z0,.s [30] [],.r] (.call [] [(.norm,⟨[(42,.t [])],[],[(28,.box [.h 32]),(29,.gone)],[.arr tB]⟩)] (.seq (.a) (.seq (.reg [0,1,3,7,15,15,47,111,255,511,15,2047,4095] (ra 0 13 ([])) [.s [28] [],.s [29] [],z0,z0,.s [28] [],.s [28] [],.s [29] [],z0,.s [29] [],.s [29] [],.s [32] [],z0,z0] (.a)) (.a))) (.a))) (.a)))) (.seq (.a) (.cond (.reg [] [] [z0,z0,.s [30] [],z0,z0,z0,.s [31] [],z0,z0,z0,z0,.s [30] [],z0,z0,z0,.s [31] [],z0,z0,z0,z0,.s [30] [],z0,z0,z0,.s [31] [],z0,z0,z0,z0,z0,.r] (.call [] [(.norm,⟨[(87,.t [])],[],[(28,.box [.h 33]),(32,.gone)],[.arr tB]⟩)] (.seq (.a) (.seq (.reg [0,1,3,7,15,15,47,111,255,511,15,2047,4095] (ra 0 13 ([])) [.s [28] [],.s [32] [],z0,z0,.s [28] [],.s [28] [],.s [32] [],z0,.s [32] [],.s [32] [],.s [33] [],z0,z0] (.a)) (.a))) (.a))) (.a))))))))) (.a))))))) (.a))))) (.a))) (.a)))) (.a)))) (.seq (.a) (.join [] (.a))))))))) (.seq (.a) (.seq (.a) (.block (.loop ⟨[(11,.r (.c (.d (.d tI))))],(ra 12 8 (ra 46 116 ([]))),[(12,.box [.d (.d .str),.d (.d .str)])],[]⟩ [(.exit 4,⟨[],(ra 11 9 (ra 46 116 ([]))),[(12,.box [.d (.d .str),.d (.d .str)])],[]⟩)] (.seq (.a) (.seq (.block (.seq (.reg [0,1,3,0,0,16,56,120,0,0,768,1792,0,0,0,28679,61695,131071] (ra 0 18 ([])) (z0::.s [18] []::.s [18] []::za 3 (.s [18] []::.s [18] []::z0::z0::.s [18] []::.s [18] []::.s [] [19]::.s [] [20]::.s [] [21]::.s [19] [19]::.s [20] [20]::.s [21] [21]::[])) (.a)) (.seq (.a) (.seq (.a) (.seq (.reg [0,0,3,0,8,31,0,64,255,0,0,1543,0,4096,15879,0,32768,130567,262143,0,0,1576455,0,4194304,16256519,0,33554432,133697031,268435455,536870911] (ra 0 30 ([])) [z0,.s [19] [],.k [],z0,.s [20] [],z0,z0,.s [21] [],z0,z0,.s [20] [],.k [],z0,.s [19] [],z0,z0,.s [21] [],z0,z0,z0,.s [21] [],.k [],z0,.s [19] [],z0,z0,.s [20] [],z0,z0,z0] (.kp [] ⟨[(118,.r (.c (.d (.d tI))))],[],[],[]⟩ (.seq (.a) (.seq (.a) (.seq (.seq (.a) (.block (.seq (.seq (.a) (.seq (.a) (.seq (.block (.seq (.a) (.reg [0,0,0,4,12,30,0,64,192,448,960,0,2048,6144,14336,30720,0,131070,262142,524287,1048575] (ra 0 21 ([])) [z0,.s [10] [],z0,.s [17] [],.s [17] [],.k [],z0,z0,z0,.s [17] [],.s [17] [],z0,z0,z0,.s [17] [],.s [17] [],.s [22] [],z0,z0,z0,z0] (.kp [] ⟨[(15,.r (.c (.d (.d tI))))],[],[],[]⟩ (.seq (.a) (.a)) (.a))))) (.a)))) (.seq (.seq (.a) (.seq (.a) (.seq (.block (.seq (.a) (.reg [0,0,0,4,12,30,0,64,192,448,960,0,2048,6144,14336,30720,0,131070,262142,524287,1048575] (ra 0 21 ([])) [z0,.s [10] [],z0,.s [17] [],.s [17] [],.k [],z0,z0,z0,.s [17] [],.s [17] [],z0,z0,z0,.s [17] [],.s [17] [],.s [22] [],z0,z0,z0,z0] (.kp [] ⟨[(15,.r (.c (.d (.d tI))))],[],[],[]⟩ (.seq (.a) (.a)) (.a))))) (.a)))) (.seq (.seq (.a) (.seq (.a) (.seq (.block (.seq (.a) (.reg [0,0,0,4,12,30,0,64,192,448,960,0,2048,6144,14336,30720,0,131070,262142,524287,1048575] (ra 0 21 ([])) [z0,.s [10] [],z0,.s [17] [],.s [17] [],.k [],z0,z0,z0,.s [17] [],.s [17] [],z0,z0,z0,.s [17] [],.s [17] [],.s [22] [],z0,z0,z0,z0] (.kp [] ⟨[(15,.r (.c (.d (.d tI))))],[],[],[]⟩ (.seq (.a) (.a)) (.a))))) (.a)))) (.seq (.a) (.join [] (.a)))))))) (.a)))) (.kp [] ⟨[(127,.r (.c (.d (.d tI))))],[],[],[]⟩ (.seq (.a) (.seq (.a) (.seq (.seq (.a) (.block (.seq (.seq (.a) (.seq (.a) (.seq (.block (.seq (.a) (.reg [0,0,0,4,12,30,0,64,192,448,960,0,2048,6144,14336,30720,0,131070,262142,524287,1048575] (ra 0 21 ([])) [z0,.s [10] [],z0,.s [17] [],.s [17] [],.k [],z0,z0,z0,.s [17] [],.s [17] [],z0,z0,z0,.s [17] [],.s [17] [],.s [22] [],z0,z0,z0,z0] (.kp [] ⟨[(15,.r (.c (.d (.d tI))))],[],[],[]⟩ (.seq (.a) (.a)) (.a))))) (.a)))) (.seq (.seq (.a) (.seq (.a) (.seq (.block (.seq (.a) (.reg [0,0,0,4,12,30,0,64,192,448,960,0,2048,6144,14336,30720,0,131070,262142,524287,1048575] (ra 0 21 ([])) [z0,.s [10] [],z0,.s [17] [],.s [17] [],.k [],z0,z0,z0,.s [17] [],.s [17] [],z0,z0,z0,.s [17] [],.s [17] [],.s [22] [],z0,z0,z0,z0] (.kp [] ⟨[(15,.r (.c (.d (.d tI))))],[],[],[]⟩ (.seq (.a) (.a)) (.a))))) (.a)))) (.seq (.seq (.a) (.seq (.a) (.seq (.block (.seq (.a) (.reg [0,0,0,4,12,30,0,64,192,448,960,0,2048,6144,14336,30720,0,131070,262142,524287,1048575] (ra 0 21 ([])) [z0,.s [10] [],z0,.s [17] [],.s [17] [],.k [],z0,z0,z0,.s [17] [],.s [17] [],z0,z0,z0,.s [17] [],.s [17] [],.s [22] [],z0,z0,z0,z0] (.kp [] ⟨[(15,.r (.c (.d (.d tI))))],[],[],[]⟩ (.seq (.a) (.a)) (.a))))) (.a)))) (.seq (.a) (.join [] (.a)))))))) (.a)))) (.kp [] ⟨[(137,.r (.c (.d (.d tI))))],[],[],[]⟩ (.seq (.a) (.seq (.a) (.seq (.seq (.a) (.block (.seq (.seq (.a) (.seq (.a) (.seq (.block (.seq (.a) (.reg [0,0,0,4,12,30,0,64,192,448,960,0,2048,6144,14336,30720,0,131070,262142,524287,1048575] (ra 0 21 ([])) [z0,.s [10] [],z0,.s [17] [],.s [17] [],.k [],z0,z0,z0,.s [17] [],.s [17] [],z0,z0,z0,.s [17] [],.s [17] [],.s [22] [],z0,z0,z0,z0] (.kp [] ⟨[(15,.r (.c (.d (.d tI))))],[],[],[]⟩ (.seq (.a) (.a)) (.a))))) (.a)))) (.seq (.seq (.a) (.seq (.a) (.seq (.block (.seq (.a) (.reg [0,0,0,4,12,30,0,64,192,448,960,0,2048,6144,14336,30720,0,131070,262142,524287,1048575] (ra 0 21 ([])) [z0,.s [10] [],z0,.s [17] [],.s [17] [],.k [],z0,z0,z0,.s [17] [],.s [17] [],z0,z0,z0,.s [17] [],.s [17] [],.s [22] [],z0,z0,z0,z0] (.kp [] ⟨[(15,.r (.c (.d (.d tI))))],[],[],[]⟩ (.seq (.a) (.a)) (.a))))) (.a)))) (.seq (.seq (.a) (.seq (.a) (.seq (.block (.seq (.a) (.reg [0,0,0,4,12,30,0,64,192,448,960,0,2048,6144,14336,30720,0,131070,262142,524287,1048575] (ra 0 21 ([])) [z0,.s [10] [],z0,.s [17] [],.s [17] [],.k [],z0,z0,z0,.s [17] [],.s [17] [],z0,z0,z0,.s [17] [],.s [17] [],.s [22] [],z0,z0,z0,z0] (.kp [] ⟨[(15,.r (.c (.d (.d tI))))],[],[],[]⟩ (.seq (.a) (.a)) (.a))))) (.a)))) (.seq (.a) (.join [] (.a)))))))) (.a)))) (.a))))) (.a)))))) (.a))))))))))) (.gq z0 (.gq (.s [15] []) (.gq (.s [16] []) (.gq z0 (.gq z0 (.gq z0 (.gq z0 (.gq z0 (.gq (.r) (.call [] [] (.seq (.a) (.block (.seq (.a) (.seq (.join [(.norm,⟨[(8,.r (.c (.h 20)))],(9::ra 28 17 ([])),[],[.arr tB]⟩)] (.seq (.a) (.block (.seq (.seq (.a) (.seq (.a) (.seq (.block (.seq (.a) (.seq (.reg [0,0,2,6,0,16,48,112,240,511,1023] (ra 0 11 ([])) [z0,z0,.s [19] [],.s [19] [],z0,z0,z0,.s [19] [],.s [19] [],.r,z0] (.call [] [] (.seq (.a) (.seq (.a) (.seq (.a) (.seq (.seq (.a) (.block (.loop ⟨[(17,.r (.c (.d (.d tI))))],(9::10::11::12::13::ra 18 71 ([])),[(22,.box [.h 23])],[.arr tB]⟩ [(.exit 0,⟨[],(9::10::11::12::13::ra 17 72 ([])),[(22,.box [.h 23])],[.arr tB]⟩)] (.seq (.a) (.seq (.a) (.seq (.join [(.norm,⟨[],(9::10::11::12::13::ra 19 69 ([])),[(22,.box [.h 24]),(23,.gone)],[.arr tB]⟩)] (.block (.seq (.a) (.seq (.a) (.seq (.reg [0,0,0,7,0,0,0,127,255,511] (ra 0 10 ([])) (.s [20] []::.s [21] []::.s [24] []::z0::.s [20] []::.s [21] []::.s [25] []::za 3 ([])) (.a)) (.seq (.join [(.norm,⟨[],[38,39,40,41,42],[(22,.box [.h 26]),(23,.gone)],[.arr tB]⟩)] (.seq (.a) (.cond (.reg [] [] [z0,.s [24] [],.r] (.call [] [(.norm,⟨[(42,.t [])],[],[(22,.box [.h 26]),(23,.gone)],[.arr tB]⟩)] (.seq (.a) (.seq (.reg [0,1,3,7,15,15,47,111,255,511,15,2047,4095] (ra 0 13 ([])) [.s [22] [],.s [23] [],z0,z0,.s [22] [],.s [22] [],.s [23] [],z0,.s [23] [],.s [23] [],.s [26] [],z0,z0] (.a)) (.a))) (.a))) (.a)))) (.seq (.a) (.cond (.reg [] [] [z0,z0,.s [24] [],z0,z0,z0,.s [25] [],z0,z0,z0,z0,.s [24] [],z0,z0,z0,.s [25] [],z0,z0,z0,z0,.s [24] [],z0,z0,z0,.s [25] [],z0,z0,z0,z0,z0,.r] (.call [] [(.norm,⟨[(87,.t [])],[],[(22,.box [.h 27]),(26,.gone)],[.arr tB]⟩)] (.seq (.a) (.seq (.reg [0,1,3,7,15,15,47,111,255,511,15,2047,4095] (ra 0 13 ([])) [.s [22] [],.s [26] [],z0,z0,.s [22] [],.s [22] [],.s [26] [],z0,.s [26] [],.s [26] [],.s [27] [],z0,z0] (.a)) (.a))) (.a))) (.a))))))))) (.a))))))) (.a))))) (.a))) (.a)))) (.a)))) (.seq (.seq (.a) (.seq (.a) (.seq (.block (.seq (.a) (.seq (.reg [0,0,2,6,0,16,48,112,240,511,1023] (ra 0 11 ([])) [z0,z0,.s [19] [],.s [19] [],z0,z0,z0,.s [19] [],.s [19] [],.r,z0] (.call [] [] (.seq (.a) (.seq (.a) (.seq (.a) (.seq (.seq (.a) (.block (.loop ⟨[(17,.r (.c (.d (.d tI))))],(9::10::11::12::13::ra 18 71 ([])),[(26,.box [.h 27])],[.arr tB]⟩ [(.exit 0,⟨[],(9::10::11::12::13::ra 17 72 ([])),[(26,.box [.h 27])],[.arr tB]⟩)] (.seq (.a) (.seq (.a) (.seq (.join [(.norm,⟨[],(9::10::11::12::13::ra 19 69 ([])),[(26,.box [.h 28]),(27,.gone)],[.arr tB]⟩)] (.block (.seq (.a) (.seq (.a) (.seq (.reg [0,0,0,7,0,0,0,127,255,511] (ra 0 10 ([])) (.s [24] []::.s [25] []::.s [28] []::z0::.s [24] []::.s [25] []::.s [29] []::za 3 ([])) (.a)) (.seq (.join [(.norm,⟨[],[38,39,40,41,42],[(26,.box [.h 30]),(27,.gone)],[.arr tB]⟩)] (.seq (.a) (.cond (.reg [] [] [z0,.s [28] [],.r] (.call [] [(.norm,⟨[(42,.t [])],[],[(26,.box [.h 30]),(27,.gone)],[.arr tB]⟩)] (.seq (.a) (.seq (.reg [0,1,3,7,15,15,47,111,255,511,15,2047,4095] (ra 0 13 ([])) [.s [26] [],.s [27] [],z0,z0,.s [26] [],.s [26] [],.s [27] [],z0,.s [27] [],.s [27] [],.s [30] [],z0,z0] (.a)) (.a))) (.a))) (.a)))) (.seq (.a) (.cond (.reg [] [] [z0,z0,.s [28] [],z0,z0,z0,.s [29] [],z0,z0,z0,z0,.s [28] [],z0,z0,z0,.s [29] [],z0,z0,z0,z0,.s [28] [],z0,z0,z0,.s [29] [],z0,z0,z0,z0,z0,.r] (.call [] [(.norm,⟨[(87,.t [])],[],[(26,.box [.h 31]),(30,.gone)],[.arr tB]⟩)] (.seq (.a) (.seq (.reg [0,1,3,7,15,15,47,111,255,511,15,2047,4095] (ra 0 13 ([])) [.s [26] [],.s [30] [],z0,z0,.s [26] [],.s [26] [],.s [30] [],z0,.s [30] [],.s [30] [],.s [31] [],z0,z0] (.a)) (.a))) (.a))) (.a))))))))) (.a))))))) (.a))))) (.a))) (.a)))) (.a)))) (.seq (.seq (.a) (.seq (.a) (.seq (.block (.seq (.a) (.seq (.reg [0,0,2,6,0,16,48,112,240,511,1023] (ra 0 11 ([])) [z0,z0,.s [19] [],.s [19] [],z0,z0,z0,.s [19] [],.s [19] [],.r,z0] (.call [] [] (.seq (.a) (.seq (.a) (.seq (.a) (.seq (.seq (.a) (.block (.loop ⟨[(17,.r (.c (.d (.d tI))))],(9::10::11::12::13::ra 18 71 ([])),[(30,.box [.h 31])],[.arr tB]⟩ [(.exit 0,⟨[],(9::10::11::12::13::ra 17 72 ([])),[(30,.box [.h 31])],[.arr tB]⟩)] (.seq (.a) (.seq (.a) (.seq (.join [(.norm,⟨[],(9::10::11::12::13::ra 19 69 ([])),[(30,.box [.h 32]),(31,.gone)],[.arr tB]⟩)] (.block (.seq (.a) (.seq (.a) (.seq (.reg [0,0,0,7,0,0,0,127,255,511] (ra 0 10 ([])) (.s [28] []::.s [29] []::.s [32] []::z0::.s [28] []::.s [29] []::.s [33] []::za 3 ([])) (.a)) (.seq (.join [(.norm,⟨[],[38,39,40,41,42],[(30,.box [.h 34]),(31,.gone)],[.arr tB]⟩)] (.seq (.a) (.cond (.reg [] [] [z0,.s [32] [],.r] (.call [] [(.norm,⟨[(42,.t [])],[],[(30,.box [.h 34]),(31,.gone)],[.arr tB]⟩)] (.seq (.a) (.seq (.reg [0,1,3,7,15,15,47,111,255,511,15,2047,4095] (ra 0 13 ([])) [.s [30] [],.s [31] [],z0,z0,.s [30] [],.s [30] [],.s [31] [],z0,.s [31] [],.s [31] [],.s [34] [],z0,z0] (.a)) (.a))) (.a))) (.a)))) (.seq (.a) (.cond (.reg [] [] [z0,z0,.s [32] [],z0,z0,z0,.s [33] [],z0,z0,z0,z0,.s [32] [],z0,z0,z0,.s [33] [],z0,z0,z0,z0,.s [32] [],z0,z0,z0,.s [33] [],z0,z0,z0,z0,z0,.r] (.call [] [(.norm,⟨[(87,.t [])],[],[(30,.box [.h 35]),(34,.gone)],[.arr tB]⟩)] (.seq (.a) (.seq (.reg [0,1,3,7,15,15,47,111,255,511,15,2047,4095] (ra 0 13 ([])) [.s [30] [],.s [34] [],z0,z0,.s [30] [],.s [30] [],.s [34] [],z0,.s [34] [],.s [34] [],.s [35] [],z0,z0] (.a)) (.a))) (.a))) (.a))))))))) (.a))))))) (.a))))) (.a))) (.a)))) (.a)))) (.seq (.a) (.join [] (.a))))))))) (.seq (.a) (.seq (.a) (.block (.loop ⟨[(11,.r (.c (.d (.d tI))))],(ra 12 8 (ra 46 116 ([]))),[(12,.box [.d (.d .str),.d (.d .str)])],[]⟩ [(.exit 4,⟨[],(ra 11 9 (ra 46 116 ([]))),[(12,.box [.d (.d .str),.d (.d .str)])],[]⟩)] (.seq (.a) (.seq (.block (.seq (.reg [0,1,3,0,0,16,56,120,0,0,768,1792,0,0,0,28679,61695,131071] (ra 0 18 ([])) (z0::.s [20] []::.s [20] []::za 3 (.s [20] []::.s [20] []::z0::z0::.s [20] []::.s [20] []::.s [] [21]::.s [] [22]::.s [] [23]::.s [21] [21]::.s [22] [22]::.s [23] [23]::[])) (.a)) (.seq (.a) (.seq (.a) (.seq (.reg [0,0,3,0,8,31,0,64,255,0,0,1543,0,4096,15879,0,32768,130567,262143,0,0,1576455,0,4194304,16256519,0,33554432,133697031,268435455,536870911] (ra 0 30 ([])) [z0,.s [21] [],.k [],z0,.s [22] [],z0,z0,.s [23] [],z0,z0,.s [22] [],.k [],z0,.s [21] [],z0,z0,.s [23] [],z0,z0,z0,.s [23] [],.k [],z0,.s [21] [],z0,z0,.s [22] [],z0,z0,z0] (.kp [] ⟨[(118,.r (.c (.d (.d tI))))],[],[],[]⟩ (.seq (.a) (.seq (.a) (.seq (.seq (.a) (.block (.seq (.seq (.a) (.seq (.a) (.seq (.block (.seq (.a) (.reg [0,0,0,4,12,30,0,64,192,448,960,0,2048,6144,14336,30720,0,131070,262142,524287,1048575] (ra 0 21 ([])) [z0,.s [10] [],z0,.s [19] [],.s [19] [],.k [],z0,z0,z0,.s [19] [],.s [19] [],z0,z0,z0,.s [19] [],.s [19] [],.s [24] [],z0,z0,z0,z0] (.kp [] ⟨[(15,.r (.c (.d (.d tI))))],[],[],[]⟩ (.seq (.a) (.a)) (.a))))) (.a)))) (.seq (.seq (.a) (.seq (.a) (.seq (.block (.seq (.a) (.reg [0,0,0,4,12,30,0,64,192,448,960,0,2048,6144,14336,30720,0,131070,262142,524287,1048575] (ra 0 21 ([])) [z0,.s [10] [],z0,.s [19] [],.s [19] [],.k [],z0,z0,z0,.s [19] [],.s [19] [],z0,z0,z0,.s [19] [],.s [19] [],.s [24] [],z0,z0,z0,z0] (.kp [] ⟨[(15,.r (.c (.d (.d tI))))],[],[],[]⟩ (.seq (.a) (.a)) (.a))))) (.a)))) (.seq (.seq (.a) (.seq (.a) (.seq (.block (.seq (.a) (.reg [0,0,0,4,12,30,0,64,192,448,960,0,2048,6144,14336,30720,0,131070,262142,524287,1048575] (ra 0 21 ([])) [z0,.s [10] [],z0,.s [19] [],.s [19] [],.k [],z0,z0,z0,.s [19] [],.s [19] [],z0,z0,z0,.s [19] [],.s [19] [],.s [24] [],z0,z0,z0,z0] (.kp [] ⟨[(15,.r (.c (.d (.d tI))))],[],[],[]⟩ (.seq (.a) (.a)) (.a))))) (.a)))) (.seq (.a) (.join [] (.a)))))))) (.a)))) (.kp [] ⟨[(127,.r (.c (.d (.d tI))))],[],[],[]⟩ (.seq (.a) (.seq (.a) (.seq (.seq (.a) (.block (.seq (.seq (.a) (.seq (.a) (.seq (.block (.seq (.a) (.reg [0,0,0,4,12,30,0,64,192,448,960,0,2048,6144,14336,30720,0,131070,262142,524287,1048575] (ra 0 21 ([])) [z0,.s [10] [],z0,.s [19] [],.s [19] [],.k [],z0,z0,z0,.s [19] [],.s [19] [],z0,z0,z0,.s [19] [],.s [19] [],.s [24] [],z0,z0,z0,z0] (.kp [] ⟨[(15,.r (.c (.d (.d tI))))],[],[],[]⟩ (.seq (.a) (.a)) (.a))))) (.a)))) (.seq (.seq (.a) (.seq (.a) (.seq (.block (.seq (.a) (.reg [0,0,0,4,12,30,0,64,192,448,960,0,2048,6144,14336,30720,0,131070,262142,524287,1048575] (ra 0 21 ([])) [z0,.s [10] [],z0,.s [19] [],.s [19] [],.k [],z0,z0,z0,.s [19] [],.s [19] [],z0,z0,z0,.s [19] [],.s [19] [],.s [24] [],z0,z0,z0,z0] (.kp [] ⟨[(15,.r (.c (.d (.d tI))))],[],[],[]⟩ (.seq (.a) (.a)) (.a))))) (.a)))) (.seq (.seq (.a) (.seq (.a) (.seq (.block (.seq (.a) (.reg [0,0,0,4,12,30,0,64,192,448,960,0,2048,6144,14336,30720,0,131070,262142,524287,1048575] (ra 0 21 ([])) [z0,.s [10] [],z0,.s [19] [],.s [19] [],.k [],z0,z0,z0,.s [19] [],.s [19] [],z0,z0,z0,.s [19] [],.s [19] [],.s [24] [],z0,z0,z0,z0] (.kp [] ⟨[(15,.r (.c (.d (.d tI))))],[],[],[]⟩ (.seq (.a) (.a)) (.a))))) (.a)))) (.seq (.a) (.join [] (.a)))))))) (.a)))) (.kp [] ⟨[(137,.r (.c (.d (.d tI))))],[],[],[]⟩ (.seq (.a) (.seq (.a) (.seq (.seq (.a) (.block (.seq (.seq (.a) (.seq (.a) (.seq (.block (.seq (.a) (.reg [0,0,0,4,12,30,0,64,192,448,960,0,2048,6144,14336,30720,0,131070,262142,524287,1048575] (ra 0 21 ([])) [z0,.s [10] [],z0,.s [19] [],.s [19] [],.k [],z0,z0,z0,.s [19] [],.s [19] [],z0,z0,z0,.s [19] [],.s [19] [],.s [24] [],z0,z0,z0,z0] (.kp [] ⟨[(15,.r (.c (.d (.d tI))))],[],[],[]⟩ (.seq (.a) (.a)) (.a))))) (.a)))) (.seq (.seq (.a) (.seq (.a) (.seq (.block (.seq (.a) (.reg [0,0,0,4,12,30,0,64,192,448,960,0,2048,6144,14336,30720,0,131070,262142,524287,1048575] (ra 0 21 ([])) [z0,.s [10] [],z0,.s [19] [],.s [19] [],.k [],z0,z0,z0,.s [19] [],.s [19] [],z0,z0,z0,.s [19] [],.s [19] [],.s [24] [],z0,z0,z0,z0] (.kp [] ⟨[(15,.r (.c (.d (.d tI))))],[],[],[]⟩ (.seq (.a) (.a)) (.a))))) (.a)))) (.seq (.seq (.a) (.seq (.a) (.seq (.block (.seq (.a) (.reg [0,0,0,4,12,30,0,64,192,448,960,0,2048,6144,14336,30720,0,131070,262142,524287,1048575] (ra 0 21 ([])) [z0,.s [10] [],z0,.s [19] [],.s [19] [],.k [],z0,z0,z0,.s [19] [],.s [19] [],z0,z0,z0,.s [19] [],.s [19] [],.s [24] [],z0,z0,z0,z0] (.kp [] ⟨[(15,.r (.c (.d (.d tI))))],[],[],[]⟩ (.seq (.a) (.a)) (.a))))) (.a)))) (.seq (.a) (.join [] (.a)))))))) (.a)))) (.a))))) (.a)))))) (.a))))))))))) (.gq z0 (.a) (.a))) (.a)) (.a)) (.a)) (.a)) (.a)) (.a)) (.a)) (.a)) (.a)))) (.a))))) (.a))))))))) (.a))))))) (.a)))) (.a)))) (.kp [] ⟨[(16,.r (.c (.f 92 [] [.p 10 0,.p 11 0])))],[],[],[.box [.d (.d tL)],.box [.d (.d tI),.d (.d tI),.d (.d tL),.d (.d tL)]]⟩ (.seq (.a) (.a)) (.kp [] ⟨[(17,.r (.s [.d (.d .str),.d (.d .str)]))],[],[],[]⟩ (.seq (.a) (.seq (.a) (.seq (.seq (.reg [] [] [.s [0] [],.r] (.call [] [] (.seq (.a) (.a)) (.a))) (.block (.call [] [] (.seq (.a) (.block (.loop ⟨[(9,.r (.c (.d (.d tI))))],(3::4::5::6::ra 10 39 ([])),[(14,.box [.d (.d .str),.d (.d .str)]),(16,.lp .ready)],[]⟩ [(.exit 0,⟨[],(3::4::5::6::ra 9 40 ([])),[(14,.box [.d (.d .str),.d (.d .str)]),(16,.lp .ready)],[]⟩)] (.seq (.a) (.seq (.a) (.seq (.block (.seq (.a) (.seq (.a) (.block (.loop ⟨[(14,.r (.c (.d (.d tI))))],(4::5::6::ra 15 33 ([])),[(14,.box [.d (.d .str),.d (.d .str)]),(16,.lp .ready)],[]⟩ [(.exit 2,⟨[],(4::5::6::ra 14 34 ([])),[(14,.box [.d (.d .str),.d (.d .str)]),(16,.lp .ready)],[]⟩)] (.seq (.a) (.seq (.a) (.seq (.block (.seq (.a) (.seq (.a) (.seq (.reg [] [] [z0,.s [17] [],z0,z0,z0,z0,.s [18] [],z0,.r,z0,z0,z0,.s [17] [],.s [18] [],z0,z0,z0,z0,z0,.r,z0,z0] (.call [] [] (.seq (.a) (.block (.seq (.a) (.seq (.join [(.norm,⟨[(8,.r (.c (.h 20)))],(9::ra 28 17 ([])),[],[.arr tB]⟩)] (.seq (.a) (.block (.seq (.seq (.a) (.seq (.a) (.seq (.block (.seq (.a) (.seq (.reg [0,0,2,6,0,16,48,112,240,511,1023] (ra 0 11 ([])) [z0,z0,.s [19] [],.s [19] [],z0,z0,z0,.s [19] [],.s [19] [],.r,z0] (.call [] [] (.seq (.a) (.seq (.a) (.seq (.a) (.seq (.seq (.a) (.block (.loop ⟨[(17,.r (.c (.d (.d tI))))],(9::10::11::12::13::ra 18 71 ([])),[(22,.box [.h 23])],[.arr tB]⟩ [(.exit 0,⟨[],(9::10::11::12::13::ra 17 72 ([])),[(22,.box [.h 23])],[.arr tB]⟩)] (.seq (.a) (.seq (.a) (.seq (.join [(.norm,⟨[],(9::10::11::12::13::ra 19 69 ([])),[(22,.box [.h 24]),(23,.gone)],[.arr tB]⟩)] (.block (.seq (.a) (.seq (.a) (.seq (.reg [0,0,0,7,0,0,0,127,255,511] (ra 0 10 ([])) (.s [20] []::.s [21] []::.s [24] []::z0::.s [20] []::.s [21] []::.s [25] []::za 3 ([])) (.a)) (.seq (.join [(.norm,⟨[],[38,39,40,41,42],[(22,.box [.h 26]),(23,.gone)],[.arr tB]⟩)] (.seq (.a) (.cond (.reg [] [] [z0,.s [24] [],.r] (.call [] [(.norm,⟨[(42,.t [])],[],[(22,.box [.h 26]),(23,.gone)],[.arr tB]⟩)] (.seq (.a) (.seq (.reg [0,1,3,7,15,15,47,111,255,511,15,2047,4095] (ra 0 13 ([])) [.s [22] [],.s [23] [],z0,z0,.s [22] [],.s [22] [],.s [23] [],z0,.s [23] [],.s [23] [],.s [26] [],z0,z0] (.a)) (.a))) (.a))) (.a)))) (.seq (.a) (.cond (.reg [] [] [z0,z0,.s [24] [],z0,z0,z0,.s [25] [],z0,z0,z0,z0,.s [24] [],z0,z0,z0,.s [25] [],z0,z0,z0,z0,.s [24] [],z0,z0,z0,.s [25] [],z0,z0,z0,z0,z0,.r] (.call [] [(.norm,⟨[(87,.t [])],[],[(22,.box [.h 27]),(26,.gone)],[.arr tB]⟩)] (.seq (.a) (.seq (.reg [0,1,3,7,15,15,47,111,255,511,15,2047,4095] (ra 0 13 ([])) [.s [22] [],.s [26] [],z0,z0,.s [22] [],.s [22] [],.s [26] [],z0,.s [26] [],.s [26] [],.s [27] [],z0,z0] (.a)) (.a))) (.a))) (.a))))))))) (.a))))))) (.a))))) (.a))) (.a)))) (.a)))) (.seq (.seq (.a) (.seq (.a) (.seq (.block (.seq (.a) (.seq (.reg [0,0,2,6,0,16,48,112,240,511,1023] (ra 0 11 ([])) [z0,z0,.s [19] [],.s [19] [],z0,z0,z0,.s [19] [],.s [19] [],.r,z0] (.call [] [] (.seq (.a) (.seq (.a) (.seq (.a) (.seq (.seq (.a) (.block (.loop ⟨[(17,.r (.c (.d (.d tI))))],(9::10::11::12::13::ra 18 71 ([])),[(26,.box [.h 27])],[.arr tB]⟩ [(.exit 0,⟨[],(9::10::11::12::13::ra 17 72 ([])),[(26,.box [.h 27])],[.arr tB]⟩)] (.seq (.a) (.seq (.a) (.seq (.join [(.norm,⟨[],(9::10::11::12::13::ra 19 69 ([])),[(26,.box [.h 28]),(27,.gone)],[.arr tB]⟩)] (.block (.seq (.a) (.seq (.a) (.seq (.reg [0,0,0,7,0,0,0,127,255,511] (ra 0 10 ([])) (.s [24] []::.s [25] []::.s [28] []::z0::.s [24] []::.s [25] []::.s [29] []::za 3 ([])) (.a)) (.seq (.join [(.norm,⟨[],[38,39,40,41,42],[(26,.box [.h 30]),(27,.gone)],[.arr tB]⟩)] (.seq (.a) (.cond (.reg [] [] [z0,.s [28] [],.r] (.call [] [(.norm,⟨[(42,.t [])],[],[(26,.box [.h 30]),(27,.gone)],[.arr tB]⟩)] (.seq (.a) (.seq (.reg [0,1,3,7,15,15,47,111,255,511,15,2047,4095] (ra 0 13 ([])) [.s [26] [],.s [27] [],z0,z0,.s [26] [],.s [26] [],.s [27] [],z0,.s [27] [],.s [27] [],.s [30] [],z0,z0] (.a)) (.a))) (.a))) (.a)))) (.seq (.a) (.cond (.reg [] [] [z0,z0,.s [28] [],z0,z0,z0,.s [29] [],z0,z0,z0,z0,.s [28] [],z0,z0,z0,.s [29] [],z0,z0,z0,z0,.s [28] [],z0,z0,z0,.s [29] [],z0,z0,z0,z0,z0,.r] (.call [] [(.norm,⟨[(87,.t [])],[],[(26,.box [.h 31]),(30,.gone)],[.arr tB]⟩)] (.seq (.a) (.seq (.reg [0,1,3,7,15,15,47,111,255,511,15,2047,4095] (ra 0 13 ([])) [.s [26] [],.s [30] [],z0,z0,.s [26] [],.s [26] [],.s [30] [],z0,.s [30] [],.s [30] [],.s [31] [],z0,z0] (.a)) (.a))) (.a))) (.a))))))))) (.a))))))) (.a))))) (.a))) (.a)))) (.a)))) (.seq (.seq (.a) (.seq (.a) (.seq (.block (.seq (.a) (.seq (.reg [0,0,2,6,0,16,48,112,240,511,1023] (ra 0 11 ([])) [z0,z0,.s [19] [],.s [19] [],z0,z0,z0,.s [19] [],.s [19] [],.r,z0] (.call [] [] (.seq (.a) (.seq (.a) (.seq (.a) (.seq (.seq (.a) (.block (.loop ⟨[(17,.r (.c (.d (.d tI))))],(9::10::11::12::13::ra 18 71 ([])),[(30,.box [.h 31])],[.arr tB]⟩ [(.exit 0,⟨[],(9::10::11::12::13::ra 17 72 ([])),[(30,.box [.h 31])],[.arr tB]⟩)] (.seq (.a) (.seq (.a) (.seq (.join [(.norm,⟨[],(9::10::11::12::13::ra 19 69 ([])),[(30,.box [.h 32]),(31,.gone)],[.arr tB]⟩)] (.block (.seq (.a) (.seq (.a) (.seq (.reg [0,0,0,7,0,0,0,127,255,511] (ra 0 10 ([])) (.s [28] []::.s [29] []::.s [32] []::z0::.s [28] []::.s [29] []::.s [33] []::za 3 ([])) (.a)) (.seq (.join [(.norm,⟨[],[38,39,40,41,42],[(30,.box [.h 34]),(31,.gone)],[.arr tB]⟩)] (.seq (.a) (.cond (.reg [] [] [z0,.s [32] [],.r] (.call [] [(.norm,⟨[(42,.t [])],[],[(30,.box [.h 34]),(31,.gone)],[.arr tB]⟩)] (.seq (.a) (.seq (.reg [0,1,3,7,15,15,47,111,255,511,15,2047,4095] (ra 0 13 ([])) [.s [30] [],.s [31] [],z0,z0,.s [30] [],.s [30] [],.s [31] [],z0,.s [31] [],.s [31] [],.s [34] [],z0,z0] (.a)) (.a))) (.a))) (.a)))) (.seq (.a) (.cond (.reg [] [] [z0,z0,.s [32] [],z0,z0,z0,.s [33] [],z0,z0,z0,z0,.s [32] [],z0,z0,z0,.s [33] [],z0,z0,z0,z0,.s [32] [],z0,z0,z0,.s [33] [],z0,z0,z0,z0,z0,.r] (.call [] [(.norm,⟨[(87,.t [])],[],[(30,.box [.h 35]),(34,.gone)],[.arr tB]⟩)] (.seq (.a) (.seq (.reg [0,1,3,7,15,15,47,111,255,511,15,2047,4095] (ra 0 13 ([])) [.s [30] [],.s [34] [],z0,z0,.s [30] [],.s [30] [],.s [34] [],z0,.s [34] [],.s [34] [],.s [35] [],z0,z0] (.a)) (.a))) (.a))) (.a))))))))) (.a))))))) (.a))))) (.a))) (.a)))) (.a)))) (.seq (.a) (.join [] (.a))))))))) (.seq (.a) (.seq (.a) (.block (.loop ⟨[(11,.r (.c (.d (.d tI))))],(ra 12 8 (ra 46 116 ([]))),[(14,.box [.d (.d .str),.d (.d .str)])],[]⟩ [(.exit 4,⟨[],(ra 11 9 (ra 46 116 ([]))),[(14,.box [.d (.d .str),.d (.d .str)])],[]⟩)] (.seq (.a) (.seq (.block (.seq (.reg [0,1,3,0,0,16,56,120,0,0,768,1792,0,0,0,28679,61695,131071] (ra 0 18 ([])) (z0::.s [20] []::.s [20] []::za 3 (.s [20] []::.s [20] []::z0::z0::.s [20] []::.s [20] []::.s [] [21]::.s [] [22]::.s [] [23]::.s [21] [21]::.s [22] [22]::.s [23] [23]::[])) (.a)) (.seq (.a) (.seq (.a) (.seq (.reg [0,0,3,0,8,31,0,64,255,0,0,1543,0,4096,15879,0,32768,130567,262143,0,0,1576455,0,4194304,16256519,0,33554432,133697031,268435455,536870911] (ra 0 30 ([])) [z0,.s [21] [],.k [],z0,.s [22] [],z0,z0,.s [23] [],z0,z0,.s [22] [],.k [],z0,.s [21] [],z0,z0,.s [23] [],z0,z0,z0,.s [23] [],.k [],z0,.s [21] [],z0,z0,.s [22] [],z0,z0,z0] (.kp [] ⟨[(118,.r (.c (.d (.d tI))))],[],[],[]⟩ (.seq (.a) (.seq (.a) (.seq (.seq (.a) (.block (.seq (.seq (.a) (.seq (.a) (.seq (.block (.seq (.a) (.reg [0,0,0,4,12,30,0,64,192,448,960,0,2048,6144,14336,30720,0,131070,262142,524287,1048575] (ra 0 21 ([])) [z0,.s [12] [],z0,.s [19] [],.s [19] [],.k [],z0,z0,z0,.s [19] [],.s [19] [],z0,z0,z0,.s [19] [],.s [19] [],.s [24] [],z0,z0,z0,z0] (.kp [] ⟨[(15,.r (.c (.d (.d tI))))],[],[],[]⟩ (.seq (.a) (.a)) (.a))))) (.a)))) (.seq (.seq (.a) (.seq (.a) (.seq (.block (.seq (.a) (.reg [0,0,0,4,12,30,0,64,192,448,960,0,2048,6144,14336,30720,0,131070,262142,524287,1048575] (ra 0 21 ([])) [z0,.s [12] [],z0,.s [19] [],.s [19] [],.k [],z0,z0,z0,.s [19] [],.s [19] [],z0,z0,z0,.s [19] [],.s [19] [],.s [24] [],z0,z0,z0,z0] (.kp [] ⟨[(15,.r (.c (.d (.d tI))))],[],[],[]⟩ (.seq (.a) (.a)) (.a))))) (.a)))) (.seq (.seq (.a) (.seq (.a) (.seq (.block (.seq (.a) (.reg [0,0,0,4,12,30,0,64,192,448,960,0,2048,6144,14336,30720,0,131070,262142,524287,1048575] (ra 0 21 ([])) [z0,.s [12] [],z0,.s [19] [],.s [19] [],.k [],z0,z0,z0,.s [19] [],.s [19] [],z0,z0,z0,.s [19] [],.s [19] [],.s [24] [],z0,z0,z0,z0] (.kp [] ⟨[(15,.r (.c (.d (.d tI))))],[],[],[]⟩ (.seq (.a) (.a)) (.a))))) (.a)))) (.seq (.a) (.join [] (.a)))))))) (.a)))) (.kp [] ⟨[(127,.r (.c (.d (.d tI))))],[],[],[]⟩ (.seq (.a) (.seq (.a) (.seq (.seq (.a) (.block (.seq (.seq (.a) (.seq (.a) (.seq (.block (.seq (.a) (.reg [0,0,0,4,12,30,0,64,192,448,960,0,2048,6144,14336,30720,0,131070,262142,524287,1048575] (ra 0 21 ([])) [z0,.s [12] [],z0,.s [19] [],.s [19] [],.k [],z0,z0,z0,.s [19] [],.s [19] [],z0,z0,z0,.s [19] [],.s [19] [],.s [24] [],z0,z0,z0,z0] (.kp [] ⟨[(15,.r (.c (.d (.d tI))))],[],[],[]⟩ (.seq (.a) (.a)) (.a))))) (.a)))) (.seq (.seq (.a) (.seq (.a) (.seq (.block (.seq (.a) (.reg [0,0,0,4,12,30,0,64,192,448,960,0,2048,6144,14336,30720,0,131070,262142,524287,1048575] (ra 0 21 ([])) [z0,.s [12] [],z0,.s [19] [],.s [19] [],.k [],z0,z0,z0,.s [19] [],.s [19] [],z0,z0,z0,.s [19] [],.s [19] [],.s [24] [],z0,z0,z0,z0] (.kp [] ⟨[(15,.r (.c (.d (.d tI))))],[],[],[]⟩ (.seq (.a) (.a)) (.a))))) (.a)))) (.seq (.seq (.a) (.seq (.a) (.seq (.block (.seq (.a) (.reg [0,0,0,4,12,30,0,64,192,448,960,0,2048,6144,14336,30720,0,131070,262142,524287,1048575] (ra 0 21 ([])) [z0,.s [12] [],z0,.s [19] [],.s [19] [],.k [],z0,z0,z0,.s [19] [],.s [19] [],z0,z0,z0,.s [19] [],.s [19] [],.s [24] [],z0,z0,z0,z0] (.kp [] ⟨[(15,.r (.c (.d (.d tI))))],[],[],[]⟩ (.seq (.a) (.a)) (.a))))) (.a)))) (.seq (.a) (.join [] (.a)))))))) (.a)))) (.kp [] ⟨[(137,.r (.c (.d (.d tI))))],[],[],[]⟩ (.seq (.a) (.seq (.a) (.seq (.seq (.a) (.block (.seq (.seq (.a) (.seq (.a) (.seq (.block (.seq (.a) (.reg [0,0,0,4,12,30,0,64,192,448,960,0,2048,6144,14336,30720,0,131070,262142,524287,1048575] (ra 0 21 ([])) [z0,.s [12] [],z0,.s [19] [],.s [19] [],.k [],z0,z0,z0,.s [19] [],.s [19] [],z0,z0,z0,.s [19] [],.s [19] [],.s [24] [],z0,z0,z0,z0] (.kp [] ⟨[(15,.r (.c (.d (.d tI))))],[],[],[]⟩ (.seq (.a) (.a)) (.a))))) (.a)))) (.seq (.seq (.a) (.seq (.a) (.seq (.block (.seq (.a) (.reg [0,0,0,4,12,30,0,64,192,448,960,0,2048,6144,14336,30720,0,131070,262142,524287,1048575] (ra 0 21 ([])) [z0,.s [12] [],z0,.s [19] [],.s [19] [],.k [],z0,z0,z0,.s [19] [],.s [19] [],z0,z0,z0,.s [19] [],.s [19] [],.s [24] [],z0,z0,z0,z0] (.kp [] ⟨[(15,.r (.c (.d (.d tI))))],[],[],[]⟩ (.seq (.a) (.a)) (.a))))) (.a)))) (.seq (.seq (.a) (.seq (.a) (.seq (.block (.seq (.a) (.reg [0,0,0,4,12,30,0,64,192,448,960,0,2048,6144,14336,30720,0,131070,262142,524287,1048575] (ra 0 21 ([])) [z0,.s [12] [],z0,.s [19] [],.s [19] [],.k [],z0,z0,z0,.s [19] [],.s [19] [],z0,z0,z0,.s [19] [],.s [19] [],.s [24] [],z0,z0,z0,z0] (.kp [] ⟨[(15,.r (.c (.d (.d tI))))],[],[],[]⟩ (.seq (.a) (.a)) (.a))))) (.a)))) (.seq (.a) (.join [] (.a)))))))) (.a)))) (.a))))) (.a)))))) (.a))))))))))) (.gq z0 (.gq (.s [17] []) (.gq (.s [18] []) (.gq z0 (.gq z0 (.gq z0 (.gq z0 (.gq z0 (.gq (.r) (.call [] [] (.seq (.a) (.block (.seq (.a) (.seq (.join [(.norm,⟨[(8,.r (.c (.h 22)))],(9::ra 28 17 ([])),[],[.arr tB]⟩)] (.seq (.a) (.block (.seq (.seq (.a) (.seq (.a) (.seq (.block (.seq (.a) (.seq (.reg [0,0,2,6,0,16,48,112,240,511,1023] (ra 0 11 ([])) [z0,z0,.s [21] [],.s [21] [],z0,z0,z0,.s [21] [],.s [21] [],.r,z0] (.call [] [] (.seq (.a) (.seq (.a) (.seq (.a) (.seq (.seq (.a) (.block (.loop ⟨[(17,.r (.c (.d (.d tI))))],(9::10::11::12::13::ra 18 71 ([])),[(24,.box [.h 25])],[.arr tB]⟩ [(.exit 0,⟨[],(9::10::11::12::13::ra 17 72 ([])),[(24,.box [.h 25])],[.arr tB]⟩)] (.seq (.a) (.seq (.a) (.seq (.join [(.norm,⟨[],(9::10::11::12::13::ra 19 69 ([])),[(24,.box [.h 26]),(25,.gone)],[.arr tB]⟩)] (.block (.seq (.a) (.seq (.a) (.seq (.reg [0,0,0,7,0,0,0,127,255,511] (ra 0 10 ([])) (.s [22] []::.s [23] []::.s [26] []::z0::.s [22] []::.s [23] []::.s [27] []::za 3 ([])) (.a)) (.seq (.join [(.norm,⟨[],[38,39,40,41,42],[(24,.box [.h 28]),(25,.gone)],[.arr tB]⟩)] (.seq (.a) (.cond (.reg [] [] [z0,.s [26] [],.r] (.call [] [(.norm,⟨[(42,.t [])],[],[(24,.box [.h 28]),(25,.gone)],[.arr tB]⟩)] (.seq (.a) (.seq (.reg [0,1,3,7,15,15,47,111,255,511,15,2047,4095] (ra 0 13 ([])) [.s [24] [],.s [25] [],z0,z0,.s [24] [],.s [24] [],.s [25] [],z0,.s [25] [],.s [25] [],.s [28] [],z0,z0] (.a)) (.a))) (.a))) (.a)))) (.seq (.a) (.cond (.reg [] [] [z0,z0,.s [26] [],z0,z0,z0,.s [27] [],z0,z0,z0,z0,.s [26] [],z0,z0,z0,.s [27] [],z0,z0,z0,z0,.s [26] [],z0,z0,z0,.s [27] [],z0,z0,z0,z0,z0,.r] (.call [] [(.norm,⟨[(87,.t [])],[],[(24,.box [.h 29]),(28,.gone)],[.arr tB]⟩)] (.seq (.a) (.seq (.reg [0,1,3,7,15,15,47,111,255,511,15,2047,4095] (ra 0 13 ([])) [.s [24] [],.s [28] [],z0,z0,.s [24] [],.s [24] [],.s [28] [],z0,.s [28] [],.s [28] [],.s [29] [],z0,z0] (.a)) (.a))) (.a))) (.a))))))))) (.a))))))) (.a))))) (.a))) (.a)))) (.a)))) (.seq (.seq (.a) (.seq (.a) (.seq (.block (.seq (.a) (.seq (.reg [0,0,2,6,0,16,48,112,240,511,1023] (ra 0 11 ([])) [z0,z0,.s [21] [],.s [21] [],z0,z0,z0,.s [21] [],.s [21] [],.r,z0] (.call [] [] (.seq (.a) (.seq (.a) (.seq (.a) (.seq (.seq (.a) (.block (.loop ⟨[(17,.r (.c (.d (.d tI))))],(9::10::11::12::13::ra 18 71 ([])),[(28,.box [.h 29])],[.arr tB]⟩ [(.exit 0,⟨[],(9::10::11::12::13::ra 17 72 ([])),[(28,.box [.h 29])],[.arr tB]⟩)] (.seq (.a) (.seq (.a) (.seq (.join [(.norm,⟨[],(9::10::11::12::13::ra 19 69 ([])),[(28,.box [.h 30]),(29,.gone)],[.arr tB]⟩)] (.block (.seq (.a) (.seq (.a) (.seq (.reg [0,0,0,7,0,0,0,127,255,511] (ra 0 10 ([])) (.s [26] []::.s [27] []::.s [30] []::z0::.s [26] []::.s [27] []::.s [31] []::za 3 ([])) (.a)) (.seq (.join [(.norm,⟨[],[38,39,40,41,42],[(28,.box [.h 32]),(29,.gone)],[.arr tB]⟩)] (.seq (.a) (.cond (.reg [] [] [z0,.s [30] [],.r] (.call [] [(.norm,⟨[(42,.t [])],[],[(28,.box [.h 32]),(29,.gone)],[.arr tB]⟩)] (.seq (.a) (.seq (.reg [0,1,3,7,15,15,47,111,255,511,15,2047,4095] (ra 0 13 ([])) [.s [28] [],.s [29] [],z0,z0,.s [28] [],.s [28] [],.s [29] [],z0,.s [29] [],.s [29] [],.s [32] [],z0,z0] (.a)) (.a))) (.a))) (.a)))) (.seq (.a) (.cond (.reg [] [] [z0,z0,.s [30] [],z0,z0,z0,.s [31] [],z0,z0,z0,z0,.s [30] [],z0,z0,z0,.s [31] [],z0,z0,z0,z0,.s [30] [],z0,z0,z0,.s [31] [],z0,z0,z0,z0,z0,.r] (.call [] [(.norm,⟨[(87,.t [])],[],[(28,.box [.h 33]),(32,.gone)],[.arr tB]⟩)] (.seq (.a) (.seq (.reg [0,1,3,7,15,15,47,111,255,511,15,2047,4095] (ra 0 13 ([])) [.s [28] [],.s [32] [],z0,z0,.s [28] [],.s [28] [],.s [32] [],z0,.s [32] [],.s [32] [],.s [33] [],z0,z0] (.a)) (.a))) (.a))) (.a))))))))) (.a))))))) (.a))))) (.a))) (.a)))) (.a)))) (.seq (.seq (.a) (.seq (.a) (.seq (.block (.seq (.a) (.seq (.reg [0,0,2,6,0,16,48,112,240,511,1023] (ra 0 11 ([])) [z0,z0,.s [21] [],.s [21] [],z0,z0,z0,.s [21] [],.s [21] [],.r,z0] (.call [] [] (.seq (.a) (.seq (.a) (.seq (.a) (.seq (.seq (.a) (.block (.loop ⟨[(17,.r (.c (.d (.d tI))))],(9::10::11::12::13::ra 18 71 ([])),[(32,.box [.h 33])],[.arr tB]⟩ [(.exit 0,⟨[],(9::10::11::12::13::ra 17 72 ([])),[(32,.box [.h 33])],[.arr tB]⟩)] (.seq (.a) (.seq (.a) (.seq (.join [(.norm,⟨[],(9::10::11::12::13::ra 19 69 ([])),[(32,.box [.h 34]),(33,.gone)],[.arr tB]⟩)] (.block (.seq (.a) (.seq (.a) (.seq (.reg [0,0,0,7,0,0,0,127,255,511] (ra 0 10 ([])) (.s [30] []::.s [31] []::.s [34] []::z0::.s [30] []::.s [31] []::.s [35] []::za 3 ([])) (.a)) (.seq (.join [(.norm,⟨[],[38,39,40,41,42],[(32,.box [.h 36]),(33,.gone)],[.arr tB]⟩)] (.seq (.a) (.cond (.reg [] [] [z0,.s [34] [],.r] (.call [] [(.norm,⟨[(42,.t [])],[],[(32,.box [.h 36]),(33,.gone)],[.arr tB]⟩)] (.seq (.a) (.seq (.reg [0,1,3,7,15,15,47,111,255,511,15,2047,4095] (ra 0 13 ([])) [.s [32] [],.s [33] [],z0,z0,.s [32] [],.s [32] [],.s [33] [],z0,.s [33] [],.s [33] [],.s [36] [],z0,z0] (.a)) (.a))) (.a))) (.a)))) (.seq (.a) (.cond (.reg [] [] [z0,z0,.s [34] [],z0,z0,z0,.s [35] [],z0,z0,z0,z0,.s [34] [],z0,z0,z0,.s [35] [],z0,z0,z0,z0,.s [34] [],z0,z0,z0,.s [35] [],z0,z0,z0,z0,z0,.r] (.call [] [(.norm,⟨[(87,.t [])],[],[(32,.box [.h 37]),(36,.gone)],[.arr tB]⟩)] (.seq (.a) (.seq (.reg [0,1,3,7,15,15,47,111,255,511,15,2047,4095] (ra 0 13 ([])) [.s [32] [],.s [36] [],z0,z0,.s [32] [],.s [32] [],.s [36] [],z0,.s [36] [],.s [36] [],.s [37] [],z0,z0] (.a)) (.a))) (.a))) (.a))))))))) (.a))))))) (.a))))) (.a))) (.a)))) (.a)))) (.seq (.a) (.join [] (.a))))))))) (.seq (.a) (.seq (.a) (.block (.loop ⟨[(11,.r (.c (.d (.d tI))))],(ra 12 8 (ra 46 116 ([]))),[(14,.box [.d (.d .str),.d (.d .str)])],[]⟩ [(.exit 4,⟨[],(ra 11 9 (ra 46 116 ([]))),[(14,.box [.d (.d .str),.d (.d .str)])],[]⟩)] (.seq (.a) (.seq (.block (.seq (.reg [0,1,3,0,0,16,56,120,0,0,768,1792,0,0,0,28679,61695,131071] (ra 0 18 ([])) (z0::.s [22] []::.s [22] []::za 3 (.s [22] []::.s [22] []::z0::z0::.s [22] []::.s [22] []::.s [] [23]::.s [] [24]::.s [] [25]::.s [23] [23]::.s [24] [24]::.s [25] [25]::[])) (.a)) (.seq (.a) (.seq (.a) (.seq (.reg [0,0,3,0,8,31,0,64,255,0,0,1543,0,4096,15879,0,32768,130567,262143,0,0,1576455,0,4194304,16256519,0,33554432,133697031,268435455,536870911] (ra 0 30 ([])) [z0,.s [23] [],.k [],z0,.s [24] [],z0,z0,.s [25] [],z0,z0,.s [24] [],.k [],z0,.s [23] [],z0,z0,.s [25] [],z0,z0,z0,.s [25] [],.k [],z0,.s [23] [],z0,z0,.s [24] [],z0,z0,z0] (.kp [] ⟨[(118,.r (.c (.d (.d tI))))],[],[],[]⟩ (.seq (.a) (.seq (.a) (.seq (.seq (.a) (.block (.seq (.seq (.a) (.seq (.a) (.seq (.block (.seq (.a) (.reg [0,0,0,4,12,30,0,64,192,448,960,0,2048,6144,14336,30720,0,131070,262142,524287,1048575] (ra 0 21 ([])) [z0,.s [12] [],z0,.s [21] [],.s [21] [],.k [],z0,z0,z0,.s [21] [],.s [21] [],z0,z0,z0,.s [21] [],.s [21] [],.s [26] [],z0,z0,z0,z0] (.kp [] ⟨[(15,.r (.c (.d (.d tI))))],[],[],[]⟩ (.seq (.a) (.a)) (.a))))) (.a)))) (.seq (.seq (.a) (.seq (.a) (.seq (.block (.seq (.a) (.reg [0,0,0,4,12,30,0,64,192,448,960,0,2048,6144,14336,30720,0,131070,262142,524287,1048575] (ra 0 21 ([])) [z0,.s [12] [],z0,.s [21] [],.s [21] [],.k [],z0,z0,z0,.s [21] [],.s [21] [],z0,z0,z0,.s [21] [],.s [21] [],.s [26] [],z0,z0,z0,z0] (.kp [] ⟨[(15,.r (.c (.d (.d tI))))],[],[],[]⟩ (.seq (.a) (.a)) (.a))))) (.a)))) (.seq (.seq (.a) (.seq (.a) (.seq (.block (.seq (.a) (.reg [0,0,0,4,12,30,0,64,192,448,960,0,2048,6144,14336,30720,0,131070,262142,524287,1048575] (ra 0 21 ([])) [z0,.s [12] [],z0,.s [21] [],.s [21] [],.k [],z0,z0,z0,.s [21] [],.s [21] [],z0,z0,z0,.s [21] [],.s [21] [],.s [26] [],z0,z0,z0,z0] (.kp [] ⟨[(15,.r (.c (.d (.d tI))))],[],[],[]⟩ (.seq (.a) (.a)) (.a))))) (.a)))) (.seq (.a) (.join [] (.a)))))))) (.a)))) (.kp [] ⟨[(127,.r (.c (.d (.d tI))))],[],[],[]⟩ (.seq (.a) (.seq (.a) (.seq (.seq (.a) (.block (.seq (.seq (.a) (.seq (.a) (.seq (.block (.seq (.a) (.reg [0,0,0,4,12,30,0,64,192,448,960,0,2048,6144,14336,30720,0,131070,262142,524287,1048575] (ra 0 21 ([])) [z0,.s [12] [],z0,.s [21] [],.s [21] [],.k [],z0,z0,z0,.s [21] [],.s [21] [],z0,z0,z0,.s [21] [],.s [21] [],.s [26] [],z0,z0,z0,z0] (.kp [] ⟨[(15,.r (.c (.d (.d tI))))],[],[],[]⟩ (.seq (.a) (.a)) (.a))))) (.a)))) (.seq (.seq (.a) (.seq (.a) (.seq (.block (.seq (.a) (.reg [0,0,0,4,12,30,0,64,192,448,960,0,2048,6144,14336,30720,0,131070,262142,524287,1048575] (ra 0 21 ([])) [z0,.s [12] [],z0,.s [21] [],.s [21] [],.k [],z0,z0,z0,.s [21] [],.s [21] [],z0,z0,z0,.s [21] [],.s [21] [],.s [26] [],z0,z0,z0,z0] (.kp [] ⟨[(15,.r (.c (.d (.d tI))))],[],[],[]⟩ (.seq (.a) (.a)) (.a))))) (.a)))) (.seq (.seq (.a) (.seq (.a) (.seq (.block (.seq (.a) (.reg [0,0,0,4,12,30,0,64,192,448,960,0,2048,6144,14336,30720,0,131070,262142,524287,1048575] (ra 0 21 ([])) [z0,.s [12] [],z0,.s [21] [],.s [21] [],.k [],z0,z0,z0,.s [21] [],.s [21] [],z0,z0,z0,.s [21] [],.s [21] [],.s [26] [],z0,z0,z0,z0] (.kp [] ⟨[(15,.r (.c (.d (.d tI))))],[],[],[]⟩ (.seq (.a) (.a)) (.a))))) (.a)))) (.seq (.a) (.join [] (.a)))))))) (.a)))) (.kp [] ⟨[(137,.r (.c (.d (.d tI))))],[],[],[]⟩ (.seq (.a) (.seq (.a) (.seq (.seq (.a) (.block (.seq (.seq (.a) (.seq (.a) (.seq (.block (.seq (.a) (.reg [0,0,0,4,12,30,0,64,192,448,960,0,2048,6144,14336,30720,0,131070,262142,524287,1048575] (ra 0 21 ([])) [z0,.s [12] [],z0,.s [21] [],.s [21] [],.k [],z0,z0,z0,.s [21] [],.s [21] [],z0,z0,z0,.s [21] [],.s [21] [],.s [26] [],z0,z0,z0,z0] (.kp [] ⟨[(15,.r (.c (.d (.d tI))))],[],[],[]⟩ (.seq (.a) (.a)) (.a))))) (.a)))) (.seq (.seq (.a) (.seq (.a) (.seq (.block (.seq (.a) (.reg [0,0,0,4,12,30,0,64,192,448,960,0,2048,6144,14336,30720,0,131070,262142,524287,1048575] (ra 0 21 ([])) [z0,.s [12] [],z0,.s [21] [],.s [21] [],.k [],z0,z0,z0,.s [21] [],.s [21] [],z0,z0,z0,.s [21] [],.s [21] [],.s [26] [],z0,z0,z0,z0] (.kp [] ⟨[(15,.r (.c (.d (.d tI))))],[],[],[]⟩ (.seq (.a) (.a)) (.a))))) (.a)))) (.seq (.seq (.a) (.seq (.a) (.seq (.block (.seq (.a) (.reg [0,0,0,4,12,30,0,64,192,448,960,0,2048,6144,14336,30720,0,131070,262142,524287,1048575] (ra 0 21 ([])) [z0,.s [12] [],z0,.s [21] [],.s [21] [],.k [],z0,z0,z0,.s [21] [],.s [21] [],z0,z0,z0,.s [21] [],.s [21] [],.s [26] [],z0,z0,z0,z0] (.kp [] ⟨[(15,.r (.c (.d (.d tI))))],[],[],[]⟩ (.seq (.a) (.a)) (.a))))) (.a)))) (.seq (.a) (.join [] (.a)))))))) (.a)))) (.a))))) (.a)))))) (.a))))))))))) (.gq z0 (.a) (.a))) (.a)) (.a)) (.a)) (.a)) (.a)) (.a)) (.a)) (.a)) (.a)))) (.a))))) (.a))))))))) (.a))))))) (.a)))) (.a)))) (.a)))))) (.a))) (.a))) (.seq (.reg [0,0,1,7,15] [0,1,2,3,4] [.s [12] [],.s [13] [],.s [1] [1],.s [2] [2],z0] (.a)) (.a)))))))
def m17:((Int×Int×List Int×List Int)×List (Int×Int))→Option ((List UInt8×List UInt8)×(List UInt8×List UInt8)×Int) :=
 fun x=>(m31 (x.1.1,x.1.2.1,x.1.2.2.1,x.1.2.2.2)).bind fun r=>(bif PE.notM (PE.notM r) then m28 x.2 else some false).bind fun r_1=>(bif PE.notM (PE.orM
 (PE.notM r) (PE.notM r_1)) then ((loopM (fun (s:Int)=>bif ltM s (lenM x.2) then (idxM x.2 s).bind fun r=>bif PE.orM (ltM x.1.1 r.1) (ltM x.1.2.1 r.2)
 then some (Sum.inr (Sum.inr s)) else some (Sum.inl (wrap .i64 (s+1))) else some (Sum.inr (Sum.inl ()))) 0).bind fun o=>Sum.elim (fun (t:Unit) =>
 some (-1)) (fun (t:Int)=>some t) o).bind fun (ov:Int)=>some (leM 0 ov) else some false).bind fun (ov:Bool)=>bif PE.orM (PE.orM (PE.notM r)
 (PE.notM r_1)) ov then some (([],[]),([],[]),250) else (loopM (fun (s:Int×List (Int×Int×Int))=>bif ltM s.1 (lenM x.2) then (idxM x.2 s.1).bind
 fun r_2=>(appM (nat_lit 24) s.2 [(r_2.1,r_2.2,1)]).bind fun r=>some (Sum.inl (wrap .i64 (s.1+1),r)) else some (Sum.inr s.2)) (0,[])).bind fun
 o=>((m25 (0,1)).bind fun r_2=>(loopM (fun (s:Int×List UInt8×List UInt8)=>bif ltM s.1 x.1.2.1 then (loopM (fun (s_1:Int×List UInt8×List
 UInt8)=>bif ltM s_1.1 x.1.1 then ((loopM (fun (s_2:Int×List (Int×Int×Int))=>bif ltM s_2.1 (lenM o) then ((chkM s_2.1 (lenM o)).bind fun r_3 =>
 (idxM o s_2.1).bind fun r_4=>(remM (wrap .i64 (s_2.1+1)) (lenM o)).bind fun r_5=>(chkM r_5 (lenM o)).bind fun r_6=>(idxM o r_5).bind fun r_7 =>
 (m48 ((s_1.1,s.1),(wrap .i64 (s_1.1+1),s.1),r_4.1,r_4.2.1,r_4.2.2)).bind fun r_8=>(m48 ((s_1.1,s.1),(wrap .i64 (s_1.1+1),s.1),
 r_7.1,r_7.2.1,r_7.2.2)).bind fun r_9=>(bif leM 0 r_8 then ((bif PE.notM (eqM (lenM s_2.2) 0) then chkM (wrap .i64 (lenM s_2.2-1)) (lenM s_2.2)
 else some ()).bind fun r_10=>(bif PE.notM (eqM (lenM s_2.2) 0) then idxM s_2.2 (wrap .i64 (lenM s_2.2-1)) else some (0,0,0)).bind fun r_11=>bif
 PE.orM (eqM (lenM s_2.2) 0) (PE.notM (PE.andM (eqM r_11.1 r_4.1) (PE.andM (eqM r_11.2.1 r_4.2.1) (eqM r_11.2.2 r_4.2.2)))) then (appM (nat_lit 24) s_2.2
 [(r_4.1,r_4.2.1,r_4.2.2)]).bind fun r=>some r else some s_2.2).bind fun (ov:List (Int×Int×Int))=>some ov else some s_2.2).bind fun o_1=>bif
 PE.orM (PE.andM (ltM 0 r_8) (ltM r_9 0)) (PE.andM (ltM r_8 0) (ltM 0 r_9)) then (m72 (wrap .i64 (wrap .i64 (r_4.1*r_9)-wrap IntKind.i64
 (r_7.1*r_8)),wrap .i64 (wrap .i64 (r_4.2.1*r_9)-wrap .i64 (r_7.2.1*r_8)),wrap .i64 (wrap .i64 (r_4.2.2*r_9) -
 wrap .i64 (r_7.2.2*r_8)))).bind fun r_10=>((bif PE.notM (eqM (lenM o_1) 0) then chkM (wrap .i64 (lenM o_1-1)) (lenM o_1) else some
 ()).bind fun r_11=>(bif PE.notM (eqM (lenM o_1) 0) then idxM o_1 (wrap .i64 (lenM o_1-1)) else some (0,0,0)).bind fun r_12=>bif PE.orM (eqM
 (lenM o_1) 0) (PE.notM (PE.andM (eqM r_12.1 r_10.1) (PE.andM (eqM r_12.2.1 r_10.2.1) (eqM r_12.2.2 r_10.2.2)))) then (appM (nat_lit 24) o_1 [(r_10.1,
 r_10.2.1,r_10.2.2)]).bind fun r=>some r else some o_1).bind fun (ov:List (Int×Int×Int))=>some ov else some o_1).bind fun o=>some (Sum.inl (wrap
 IntKind.i64 (s_2.1+1),o)) else some (Sum.inr s_2.2)) (0,[])).bind fun o_1=>bif eqM (lenM o_1) 0 then some o_1 else (loopM (fun (s_2:Int×List (Int ×
 Int×Int))=>bif ltM s_2.1 (lenM o_1) then ((chkM s_2.1 (lenM o_1)).bind fun r_3=>(idxM o_1 s_2.1).bind fun r_4=>(remM (wrap .i64 (s_2.1+1))
 (lenM o_1)).bind fun r_5=>(chkM r_5 (lenM o_1)).bind fun r_6=>(idxM o_1 r_5).bind fun r_7=>(m48 ((wrap .i64 (s_1.1+1),s.1),(wrap IntKind.i64
 (s_1.1+1),wrap .i64 (s.1+1)),r_4.1,r_4.2.1,r_4.2.2)).bind fun r_8=>(m48 ((wrap .i64 (s_1.1+1),s.1),(wrap .i64 (s_1.1+1),
 wrap .i64 (s.1+1)),r_7.1,r_7.2.1,r_7.2.2)).bind fun r_9=>(bif leM 0 r_8 then ((bif PE.notM (eqM (lenM s_2.2) 0) then chkM (wrap IntKind.i64
 (lenM s_2.2-1)) (lenM s_2.2) else some ()).bind fun r_10=>(bif PE.notM (eqM (lenM s_2.2) 0) then idxM s_2.2 (wrap .i64 (lenM s_2.2-1)) else some
 (0,0,0)).bind fun r_11=>bif PE.orM (eqM (lenM s_2.2) 0) (PE.notM (PE.andM (eqM r_11.1 r_4.1) (PE.andM (eqM r_11.2.1 r_4.2.1) (eqM r_11.2.2 r_4.2.2))))
 then (appM (nat_lit 24) s_2.2 [(r_4.1,r_4.2.1,r_4.2.2)]).bind fun r=>some r else some s_2.2).bind fun (ov:List (Int×Int×Int))=>some ov else some
 s_2.2).bind fun o_2=>bif PE.orM (PE.andM (ltM 0 r_8) (ltM r_9 0)) (PE.andM (ltM r_8 0) (ltM 0 r_9)) then (m72 (wrap .i64 (wrap .i64 (r_4.1 *
 r_9)-wrap .i64 (r_7.1*r_8)),wrap .i64 (wrap .i64 (r_4.2.1*r_9)-wrap .i64 (r_7.2.1*r_8)),wrap .i64 (wrap
 IntKind.i64 (r_4.2.2*r_9)-wrap .i64 (r_7.2.2*r_8)))).bind fun r_10=>((bif PE.notM (eqM (lenM o_2) 0) then chkM (wrap .i64 (lenM o_2 -
 1)) (lenM o_2) else some ()).bind fun r_11=>(bif PE.notM (eqM (lenM o_2) 0) then idxM o_2 (wrap .i64 (lenM o_2-1)) else some (0,0,0)).bind fun
 r_12=>bif PE.orM (eqM (lenM o_2) 0) (PE.notM (PE.andM (eqM r_12.1 r_10.1) (PE.andM (eqM r_12.2.1 r_10.2.1) (eqM r_12.2.2 r_10.2.2)))) then (appM (nat_lit
 24) o_2 [(r_10.1,r_10.2.1,r_10.2.2)]).bind fun r=>some r else some o_2).bind fun (ov:List (Int×Int×Int))=>some ov else some o_2).bind fun o =>
 some (Sum.inl (wrap .i64 (s_2.1+1),o)) else some (Sum.inr s_2.2)) (0,[])).bind fun o_2=>bif eqM (lenM o_2) 0 then some o_2 else (loopM (fun (s_2
 : Int×List (Int×Int×Int))=>bif ltM s_2.1 (lenM o_2) then ((chkM s_2.1 (lenM o_2)).bind fun r_3=>(idxM o_2 s_2.1).bind fun r_4=>(remM (wrap
 IntKind.i64 (s_2.1+1)) (lenM o_2)).bind fun r_5=>(chkM r_5 (lenM o_2)).bind fun r_6=>(idxM o_2 r_5).bind fun r_7=>(m48 ((wrap .i64 (s_1.1+1),
 wrap .i64 (s.1+1)),(s_1.1,s.1),r_4.1,r_4.2.1,r_4.2.2)).bind fun r_8=>(m48 ((wrap .i64 (s_1.1+1),wrap .i64 (s.1+1)),(s_1.1,
 s.1),r_7.1,r_7.2.1,r_7.2.2)).bind fun r_9=>(bif leM 0 r_8 then ((bif PE.notM (eqM (lenM s_2.2) 0) then chkM (wrap .i64 (lenM s_2.2-1)) (lenM
 s_2.2) else some ()).bind fun r_10=>(bif PE.notM (eqM (lenM s_2.2) 0) then idxM s_2.2 (wrap .i64 (lenM s_2.2-1)) else some (0,0,0)).bind fun r_11
 => bif PE.orM (eqM (lenM s_2.2) 0) (PE.notM (PE.andM (eqM r_11.1 r_4.1) (PE.andM (eqM r_11.2.1 r_4.2.1) (eqM r_11.2.2 r_4.2.2)))) then (appM (nat_lit 24)
 s_2.2 [(r_4.1,r_4.2.1,r_4.2.2)]).bind fun r=>some r else some s_2.2).bind fun (ov:List (Int×Int×Int))=>some ov else some s_2.2).bind fun o_3 =>
 bif PE.orM (PE.andM (ltM 0 r_8) (ltM r_9 0)) (PE.andM (ltM r_8 0) (ltM 0 r_9)) then (m72 (wrap .i64 (wrap .i64 (r_4.1*r_9)-wrap IntKind.i64
 (r_7.1*r_8)),wrap .i64 (wrap .i64 (r_4.2.1*r_9)-wrap .i64 (r_7.2.1*r_8)),wrap .i64 (wrap .i64 (r_4.2.2*r_9) -
 wrap .i64 (r_7.2.2*r_8)))).bind fun r_10=>((bif PE.notM (eqM (lenM o_3) 0) then chkM (wrap .i64 (lenM o_3-1)) (lenM o_3) else some
 ()).bind fun r_11=>(bif PE.notM (eqM (lenM o_3) 0) then idxM o_3 (wrap .i64 (lenM o_3-1)) else some (0,0,0)).bind fun r_12=>bif PE.orM (eqM
 (lenM o_3) 0) (PE.notM (PE.andM (eqM r_12.1 r_10.1) (PE.andM (eqM r_12.2.1 r_10.2.1) (eqM r_12.2.2 r_10.2.2)))) then (appM (nat_lit 24) o_3 [(r_10.1,
 r_10.2.1,r_10.2.2)]).bind fun r=>some r else some o_3).bind fun (ov:List (Int×Int×Int))=>some ov else some o_3).bind fun o=>some (Sum.inl (wrap
 IntKind.i64 (s_2.1+1),o)) else some (Sum.inr s_2.2)) (0,[])).bind fun o=>bif eqM (lenM o) 0 then some o else some o).bind fun o_1=>(loopM (fun (s_2 :
 Int×List UInt8×List UInt8)=>bif ltM s_2.1 (lenM o_1) then (chkM 0 (lenM o_1)).bind fun r_3=>(idxM o_1 0).bind fun r_4=>(chkM (wrap IntKind.i64
 (s_2.1-1)) (lenM o_1)).bind fun r_5=>(idxM o_1 (wrap .i64 (s_2.1-1))).bind fun r_6=>(chkM s_2.1 (lenM o_1)).bind fun r_7=>(idxM o_1
 s_2.1).bind fun r_8=>(((idxM x.1.2.2.1 (wrap .i64 (wrap .i64 (s.1*wrap .i64 (x.1.1+1))+s_1.1))).bind fun r=>some r).bind fun
 (ov_1:Int)=>(m48 ((wrap .i64 (s_1.1+1),s.1),(wrap .i64 (s_1.1+1),wrap .i64 (s.1+1)),r_4.1,r_4.2.1,r_4.2.2)).bind fun r_9
 => ((idxM x.1.2.2.1 (wrap .i64 (wrap .i64 (s.1*wrap .i64 (x.1.1+1))+wrap .i64 (s_1.1+1)))).bind fun r=>some r).bind fun
 (ov_2:Int)=>(m48 ((wrap .i64 (s_1.1+1),wrap .i64 (s.1+1)),(s_1.1,s.1),r_4.1,r_4.2.1,r_4.2.2)).bind fun r_10=>((idxM x.1.2.2.1
 (wrap .i64 (wrap .i64 (wrap .i64 (s.1+1)*wrap .i64 (x.1.1+1))+wrap .i64 (s_1.1+1)))).bind fun r=>some r).bind
 fun (ov_3:Int)=>(m48 ((s_1.1,s.1),(wrap .i64 (s_1.1+1),s.1),r_4.1,r_4.2.1,r_4.2.2)).bind fun r=>some (wrap .i64 (wrap IntKind.i64
 (wrap .i64 (0+wrap .i64 (ov_1*r_9))+wrap .i64 (ov_2*r_10))+wrap .i64 (ov_3*r)))).bind fun (ov_1:Int)=>(((idxM
 x.1.2.2.1 (wrap .i64 (wrap .i64 (s.1*wrap .i64 (x.1.1+1))+s_1.1))).bind fun r=>some r).bind fun (ov_2:Int)=>(m48 ((wrap
 IntKind.i64 (s_1.1+1),s.1),(wrap .i64 (s_1.1+1),wrap .i64 (s.1+1)),r_6.1,r_6.2.1,r_6.2.2)).bind fun r_9=>((idxM x.1.2.2.1 (wrap
 IntKind.i64 (wrap .i64 (s.1*wrap .i64 (x.1.1+1))+wrap .i64 (s_1.1+1)))).bind fun r=>some r).bind fun (ov_3:Int)=>(m48
 ((wrap .i64 (s_1.1+1),wrap .i64 (s.1+1)),(s_1.1,s.1),r_6.1,r_6.2.1,r_6.2.2)).bind fun r_10=>((idxM x.1.2.2.1 (wrap .i64 (wrap
 IntKind.i64 (wrap .i64 (s.1+1)*wrap .i64 (x.1.1+1))+wrap .i64 (s_1.1+1)))).bind fun r=>some r).bind fun (ov_4:Int)=>(m48
 ((s_1.1,s.1),(wrap .i64 (s_1.1+1),s.1),r_6.1,r_6.2.1,r_6.2.2)).bind fun r=>some (wrap .i64 (wrap .i64 (wrap .i64 (0 +
 wrap .i64 (ov_2*r_9))+wrap .i64 (ov_3*r_10))+wrap .i64 (ov_4*r)))).bind fun (ov_2:Int)=>(((idxM x.1.2.2.1 (wrap IntKind.i64
 (wrap .i64 (s.1*wrap .i64 (x.1.1+1))+s_1.1))).bind fun r=>some r).bind fun (ov_3:Int)=>(m48 ((wrap .i64 (s_1.1+1),s.1),
 (wrap .i64 (s_1.1+1),wrap .i64 (s.1+1)),r_8.1,r_8.2.1,r_8.2.2)).bind fun r_9=>((idxM x.1.2.2.1 (wrap .i64 (wrap IntKind.i64
 (s.1*wrap .i64 (x.1.1+1))+wrap .i64 (s_1.1+1)))).bind fun r=>some r).bind fun (ov_4:Int)=>(m48 ((wrap .i64 (s_1.1+1),
 wrap .i64 (s.1+1)),(s_1.1,s.1),r_8.1,r_8.2.1,r_8.2.2)).bind fun r_10=>((idxM x.1.2.2.1 (wrap .i64 (wrap .i64 (wrap IntKind.i64
 (s.1+1)*wrap .i64 (x.1.1+1))+wrap .i64 (s_1.1+1)))).bind fun r=>some r).bind fun (ov_5:Int)=>(m48 ((s_1.1,s.1),(wrap
 IntKind.i64 (s_1.1+1),s.1),r_8.1,r_8.2.1,r_8.2.2)).bind fun r=>some (wrap .i64 (wrap .i64 (wrap .i64 (0+wrap .i64 (ov_3
 * r_9))+wrap .i64 (ov_4*r_10))+wrap .i64 (ov_5*r)))).bind fun (ov_3:Int)=>(m25 (wrap .i64 (wrap .i64 (wrap IntKind.i64
 (wrap .i64 (r_4.1*wrap .i64 (wrap .i64 (r_6.2.1*r_8.2.2)-wrap .i64 (r_6.2.2*r_8.2.1)))-wrap .i64 (r_4.2.1*wrap
 IntKind.i64 (wrap .i64 (r_6.1*r_8.2.2)-wrap .i64 (r_6.2.2*r_8.1))))+wrap .i64 (r_4.2.2*wrap .i64 (wrap IntKind.i64
 (r_6.1*r_8.2.1)-wrap .i64 (r_6.2.1*r_8.1))))*wrap .i64 (wrap .i64 (wrap .i64 (wrap .i64 (ov_1*r_6.2.2)*r_8.2.2)
 + wrap .i64 (wrap .i64 (ov_2*r_4.2.2)*r_8.2.2))+wrap .i64 (wrap .i64 (ov_3*r_4.2.2)*r_6.2.2))),wrap .i64 (wrap
 IntKind.i64 (6*wrap .i64 (wrap .i64 (r_4.2.2*r_6.2.2)*r_8.2.2))*wrap .i64 (wrap .i64 (r_4.2.2*r_6.2.2) *
 r_8.2.2)))).bind fun r_9=>(m49 ((s_2.2.1,s_2.2.2),r_9.1.1,r_9.1.2)).bind fun r=>some (Sum.inl (wrap .i64 (s_2.1+1),r.1.1,r.1.2)) else some
 (Sum.inr (s_2.2.1,s_2.2.2))) (2,s_1.2.1,s_1.2.2)).bind fun o_2=>((loopM (fun (s_2:Int×List (Int×Int×Int))=>bif ltM s_2.1 (lenM o) then ((chkM
 s_2.1 (lenM o)).bind fun r_3=>(idxM o s_2.1).bind fun r_4=>(remM (wrap .i64 (s_2.1+1)) (lenM o)).bind fun r_5=>(chkM r_5 (lenM o)).bind fun r_6
 => (idxM o r_5).bind fun r_7=>(m48 ((s_1.1,s.1),(wrap .i64 (s_1.1+1),wrap .i64 (s.1+1)),r_4.1,r_4.2.1,r_4.2.2)).bind fun r_8=>(m48
 ((s_1.1,s.1),(wrap .i64 (s_1.1+1),wrap .i64 (s.1+1)),r_7.1,r_7.2.1,r_7.2.2)).bind fun r_9=>(bif leM 0 r_8 then ((bif PE.notM (eqM
 (lenM s_2.2) 0) then chkM (wrap .i64 (lenM s_2.2-1)) (lenM s_2.2) else some ()).bind fun r_10=>(bif PE.notM (eqM (lenM s_2.2) 0) then idxM s_2.2
 (wrap .i64 (lenM s_2.2-1)) else some (0,0,0)).bind fun r_11=>bif PE.orM (eqM (lenM s_2.2) 0) (PE.notM (PE.andM (eqM r_11.1 r_4.1) (PE.andM (eqM
 r_11.2.1 r_4.2.1) (eqM r_11.2.2 r_4.2.2)))) then (appM (nat_lit 24) s_2.2 [(r_4.1,r_4.2.1,r_4.2.2)]).bind fun r=>some r else some s_2.2).bind fun (ov :
 List (Int×Int×Int))=>some ov else some s_2.2).bind fun o_3=>bif PE.orM (PE.andM (ltM 0 r_8) (ltM r_9 0)) (PE.andM (ltM r_8 0) (ltM 0 r_9)) then (m72
 (wrap .i64 (wrap .i64 (r_4.1*r_9)-wrap .i64 (r_7.1*r_8)),wrap .i64 (wrap .i64 (r_4.2.1*r_9)-wrap IntKind.i64
 (r_7.2.1*r_8)),wrap .i64 (wrap .i64 (r_4.2.2*r_9)-wrap .i64 (r_7.2.2*r_8)))).bind fun r_10=>((bif PE.notM (eqM (lenM o_3) 0)
 then chkM (wrap .i64 (lenM o_3-1)) (lenM o_3) else some ()).bind fun r_11=>(bif PE.notM (eqM (lenM o_3) 0) then idxM o_3 (wrap .i64 (lenM
 o_3-1)) else some (0,0,0)).bind fun r_12=>bif PE.orM (eqM (lenM o_3) 0) (PE.notM (PE.andM (eqM r_12.1 r_10.1) (PE.andM (eqM r_12.2.1 r_10.2.1) (eqM
 r_12.2.2 r_10.2.2)))) then (appM (nat_lit 24) o_3 [(r_10.1,r_10.2.1,r_10.2.2)]).bind fun r=>some r else some o_3).bind fun (ov:List (Int×Int×Int))
 => some ov else some o_3).bind fun o=>some (Sum.inl (wrap .i64 (s_2.1+1),o)) else some (Sum.inr s_2.2)) (0,[])).bind fun o_3=>bif eqM (lenM
 o_3) 0 then some o_3 else (loopM (fun (s_2:Int×List (Int×Int×Int))=>bif ltM s_2.1 (lenM o_3) then ((chkM s_2.1 (lenM o_3)).bind fun r_3=>(idxM o_3
 s_2.1).bind fun r_4=>(remM (wrap .i64 (s_2.1+1)) (lenM o_3)).bind fun r_5=>(chkM r_5 (lenM o_3)).bind fun r_6=>(idxM o_3 r_5).bind fun r_7 =>
 (m48 ((wrap .i64 (s_1.1+1),wrap .i64 (s.1+1)),(s_1.1,wrap .i64 (s.1+1)),r_4.1,r_4.2.1,r_4.2.2)).bind fun r_8=>(m48 ((wrap
 IntKind.i64 (s_1.1+1),wrap .i64 (s.1+1)),(s_1.1,wrap .i64 (s.1+1)),r_7.1,r_7.2.1,r_7.2.2)).bind fun r_9=>(bif leM 0 r_8 then ((bif
 PE.notM (eqM (lenM s_2.2) 0) then chkM (wrap .i64 (lenM s_2.2-1)) (lenM s_2.2) else some ()).bind fun r_10=>(bif PE.notM (eqM (lenM s_2.2) 0) then
 idxM s_2.2 (wrap .i64 (lenM s_2.2-1)) else some (0,0,0)).bind fun r_11=>bif PE.orM (eqM (lenM s_2.2) 0) (PE.notM (PE.andM (eqM r_11.1 r_4.1)
 (PE.andM (eqM r_11.2.1 r_4.2.1) (eqM r_11.2.2 r_4.2.2)))) then (appM (nat_lit 24) s_2.2 [(r_4.1,r_4.2.1,r_4.2.2)]).bind fun r=>some r else some
 s_2.2).bind fun (ov:List (Int×Int×Int))=>some ov else some s_2.2).bind fun o_4=>bif PE.orM (PE.andM (ltM 0 r_8) (ltM r_9 0)) (PE.andM (ltM r_8 0)
 (ltM 0 r_9)) then (m72 (wrap .i64 (wrap .i64 (r_4.1*r_9)-wrap .i64 (r_7.1*r_8)),wrap .i64 (wrap .i64 (r_4.2.1*r_9)
 - wrap .i64 (r_7.2.1*r_8)),wrap .i64 (wrap .i64 (r_4.2.2*r_9)-wrap .i64 (r_7.2.2*r_8)))).bind fun r_10=>((bif PE.notM
 (eqM (lenM o_4) 0) then chkM (wrap .i64 (lenM o_4-1)) (lenM o_4) else some ()).bind fun r_11=>(bif PE.notM (eqM (lenM o_4) 0) then idxM o_4 (wrap
 IntKind.i64 (lenM o_4-1)) else some (0,0,0)).bind fun r_12=>bif PE.orM (eqM (lenM o_4) 0) (PE.notM (PE.andM (eqM r_12.1 r_10.1) (PE.andM (eqM r_12.2.1
 r_10.2.1) (eqM r_12.2.2 r_10.2.2)))) then (appM (nat_lit 24) o_4 [(r_10.1,r_10.2.1,r_10.2.2)]).bind fun r=>some r else some o_4).bind fun (ov:List (Int
 × Int×Int))=>some ov else some o_4).bind fun o=>some (Sum.inl (wrap .i64 (s_2.1+1),o)) else some (Sum.inr s_2.2)) (0,[])).bind fun o_4=>bif
 eqM (lenM o_4) 0 then some o_4 else (loopM (fun (s_2:Int×List (Int×Int×Int))=>bif ltM s_2.1 (lenM o_4) then ((chkM s_2.1 (lenM o_4)).bind fun r_3 =>
 (idxM o_4 s_2.1).bind fun r_4=>(remM (wrap .i64 (s_2.1+1)) (lenM o_4)).bind fun r_5=>(chkM r_5 (lenM o_4)).bind fun r_6=>(idxM o_4 r_5).bind
 fun r_7=>(m48 ((s_1.1,wrap .i64 (s.1+1)),(s_1.1,s.1),r_4.1,r_4.2.1,r_4.2.2)).bind fun r_8=>(m48 ((s_1.1,wrap .i64 (s.1+1)),
 (s_1.1,s.1),r_7.1,r_7.2.1,r_7.2.2)).bind fun r_9=>(bif leM 0 r_8 then ((bif PE.notM (eqM (lenM s_2.2) 0) then chkM (wrap .i64 (lenM s_2.2-1))
 (lenM s_2.2) else some ()).bind fun r_10=>(bif PE.notM (eqM (lenM s_2.2) 0) then idxM s_2.2 (wrap .i64 (lenM s_2.2-1)) else some (0,0,0)).bind
 fun r_11=>bif PE.orM (eqM (lenM s_2.2) 0) (PE.notM (PE.andM (eqM r_11.1 r_4.1) (PE.andM (eqM r_11.2.1 r_4.2.1) (eqM r_11.2.2 r_4.2.2)))) then (appM (nat_lit
 24) s_2.2 [(r_4.1,r_4.2.1,r_4.2.2)]).bind fun r=>some r else some s_2.2).bind fun (ov:List (Int×Int×Int))=>some ov else some s_2.2).bind fun o_5
 => bif PE.orM (PE.andM (ltM 0 r_8) (ltM r_9 0)) (PE.andM (ltM r_8 0) (ltM 0 r_9)) then (m72 (wrap .i64 (wrap .i64 (r_4.1*r_9)-wrap
 IntKind.i64 (r_7.1*r_8)),wrap .i64 (wrap .i64 (r_4.2.1*r_9)-wrap .i64 (r_7.2.1*r_8)),wrap .i64 (wrap IntKind.i64
 (r_4.2.2*r_9)-wrap .i64 (r_7.2.2*r_8)))).bind fun r_10=>((bif PE.notM (eqM (lenM o_5) 0) then chkM (wrap .i64 (lenM o_5-1)) (lenM o_5)
 else some ()).bind fun r_11=>(bif PE.notM (eqM (lenM o_5) 0) then idxM o_5 (wrap .i64 (lenM o_5-1)) else some (0,0,0)).bind fun r_12=>bif
 PE.orM (eqM (lenM o_5) 0) (PE.notM (PE.andM (eqM r_12.1 r_10.1) (PE.andM (eqM r_12.2.1 r_10.2.1) (eqM r_12.2.2 r_10.2.2)))) then (appM (nat_lit 24) o_5
 [(r_10.1,r_10.2.1,r_10.2.2)]).bind fun r=>some r else some o_5).bind fun (ov:List (Int×Int×Int))=>some ov else some o_5).bind fun o=>some
 (Sum.inl (wrap .i64 (s_2.1+1),o)) else some (Sum.inr s_2.2)) (0,[])).bind fun o=>bif eqM (lenM o) 0 then some o else some o).bind fun o_3 =>
 (loopM (fun (s_2:Int×List UInt8×List UInt8)=>bif ltM s_2.1 (lenM o_3) then (chkM 0 (lenM o_3)).bind fun r_3=>(idxM o_3 0).bind fun r_4=>(chkM
 (wrap .i64 (s_2.1-1)) (lenM o_3)).bind fun r_5=>(idxM o_3 (wrap .i64 (s_2.1-1))).bind fun r_6=>(chkM s_2.1 (lenM o_3)).bind fun r_7 =>
 (idxM o_3 s_2.1).bind fun r_8=>(((idxM x.1.2.2.1 (wrap .i64 (wrap .i64 (s.1*wrap .i64 (x.1.1+1))+s_1.1))).bind fun r=>some
 r).bind fun (ov_1:Int)=>(m48 ((wrap .i64 (s_1.1+1),wrap .i64 (s.1+1)),(s_1.1,wrap .i64 (s.1+1)),r_4.1,r_4.2.1,
 r_4.2.2)).bind fun r_9=>((idxM x.1.2.2.1 (wrap .i64 (wrap .i64 (wrap .i64 (s.1+1)*wrap .i64 (x.1.1+1))+wrap IntKind.i64
 (s_1.1+1)))).bind fun r=>some r).bind fun (ov_2:Int)=>(m48 ((s_1.1,wrap .i64 (s.1+1)),(s_1.1,s.1),r_4.1,r_4.2.1,r_4.2.2)).bind fun r_10
 => ((idxM x.1.2.2.1 (wrap .i64 (wrap .i64 (wrap .i64 (s.1+1)*wrap .i64 (x.1.1+1))+s_1.1))).bind fun r=>some r).bind fun
 (ov_3:Int)=>(m48 ((s_1.1,s.1),(wrap .i64 (s_1.1+1),wrap .i64 (s.1+1)),r_4.1,r_4.2.1,r_4.2.2)).bind fun r=>some (wrap IntKind.i64
 (wrap .i64 (wrap .i64 (0+wrap .i64 (ov_1*r_9))+wrap .i64 (ov_2*r_10))+wrap .i64 (ov_3*r)))).bind fun (ov_1 :
 Int)=>(((idxM x.1.2.2.1 (wrap .i64 (wrap .i64 (s.1*wrap .i64 (x.1.1+1))+s_1.1))).bind fun r=>some r).bind fun (ov_2:Int) =>
 (m48 ((wrap .i64 (s_1.1+1),wrap .i64 (s.1+1)),(s_1.1,wrap .i64 (s.1+1)),r_6.1,r_6.2.1,r_6.2.2)).bind fun r_9=>((idxM
 x.1.2.2.1 (wrap .i64 (wrap .i64 (wrap .i64 (s.1+1)*wrap .i64 (x.1.1+1))+wrap .i64 (s_1.1+1)))).bind fun r=>some
 r).bind fun (ov_3:Int)=>(m48 ((s_1.1,wrap .i64 (s.1+1)),(s_1.1,s.1),r_6.1,r_6.2.1,r_6.2.2)).bind fun r_10=>((idxM x.1.2.2.1 (wrap
 IntKind.i64 (wrap .i64 (wrap .i64 (s.1+1)*wrap .i64 (x.1.1+1))+s_1.1))).bind fun r=>some r).bind fun (ov_4:Int)=>(m48
 ((s_1.1,s.1),(wrap .i64 (s_1.1+1),wrap .i64 (s.1+1)),r_6.1,r_6.2.1,r_6.2.2)).bind fun r=>some (wrap .i64 (wrap IntKind.i64
 (wrap .i64 (0+wrap .i64 (ov_2*r_9))+wrap .i64 (ov_3*r_10))+wrap .i64 (ov_4*r)))).bind fun (ov_2:Int)=>(((idxM
 x.1.2.2.1 (wrap .i64 (wrap .i64 (s.1*wrap .i64 (x.1.1+1))+s_1.1))).bind fun r=>some r).bind fun (ov_3:Int)=>(m48 ((wrap
 IntKind.i64 (s_1.1+1),wrap .i64 (s.1+1)),(s_1.1,wrap .i64 (s.1+1)),r_8.1,r_8.2.1,r_8.2.2)).bind fun r_9=>((idxM x.1.2.2.1 (wrap
 IntKind.i64 (wrap .i64 (wrap .i64 (s.1+1)*wrap .i64 (x.1.1+1))+wrap .i64 (s_1.1+1)))).bind fun r=>some r).bind fun
 (ov_4:Int)=>(m48 ((s_1.1,wrap .i64 (s.1+1)),(s_1.1,s.1),r_8.1,r_8.2.1,r_8.2.2)).bind fun r_10=>((idxM x.1.2.2.1 (wrap .i64 (wrap
 IntKind.i64 (wrap .i64 (s.1+1)*wrap .i64 (x.1.1+1))+s_1.1))).bind fun r=>some r).bind fun (ov_5:Int)=>(m48 ((s_1.1,s.1),(wrap
 IntKind.i64 (s_1.1+1),wrap .i64 (s.1+1)),r_8.1,r_8.2.1,r_8.2.2)).bind fun r=>some (wrap .i64 (wrap .i64 (wrap .i64 (0 +
 wrap .i64 (ov_3*r_9))+wrap .i64 (ov_4*r_10))+wrap .i64 (ov_5*r)))).bind fun (ov_3:Int)=>(m25 (wrap .i64 (wrap
 IntKind.i64 (wrap .i64 (wrap .i64 (r_4.1*wrap .i64 (wrap .i64 (r_6.2.1*r_8.2.2)-wrap .i64 (r_6.2.2*r_8.2.1))) -
 wrap .i64 (r_4.2.1*wrap .i64 (wrap .i64 (r_6.1*r_8.2.2)-wrap .i64 (r_6.2.2*r_8.1))))+wrap .i64 (r_4.2.2*wrap
 IntKind.i64 (wrap .i64 (r_6.1*r_8.2.1)-wrap .i64 (r_6.2.1*r_8.1))))*wrap .i64 (wrap .i64 (wrap .i64 (wrap
 IntKind.i64 (ov_1*r_6.2.2)*r_8.2.2)+wrap .i64 (wrap .i64 (ov_2*r_4.2.2)*r_8.2.2))+wrap .i64 (wrap .i64 (ov_3 *
 r_4.2.2)*r_6.2.2))),wrap .i64 (wrap .i64 (6*wrap .i64 (wrap .i64 (r_4.2.2*r_6.2.2)*r_8.2.2))*wrap .i64 (wrap
 IntKind.i64 (r_4.2.2*r_6.2.2)*r_8.2.2)))).bind fun r_9=>(m49 ((s_2.2.1,s_2.2.2),r_9.1.1,r_9.1.2)).bind fun r=>some (Sum.inl (wrap IntKind.i64
 (s_2.1+1),r.1.1,r.1.2)) else some (Sum.inr (s_2.2.1,s_2.2.2))) (2,o_2.1,o_2.2)).bind fun o=>some (Sum.inl (wrap .i64 (s_1.1+1),o.1,o.2))
 else some (Sum.inr (s_1.2.1,s_1.2.2))) (0,s.2.1,s.2.2)).bind fun o=>some (Sum.inl (wrap .i64 (s.1+1),o.1,o.2)) else some (Sum.inr (s.2.1,
 s.2.2))) (0,r_2.1.1,r_2.1.2)).bind fun o=>some (o.1,o.2)).bind fun (ov_1:List UInt8×List UInt8)=>((m25 (0,1)).bind fun r_2=>(loopM (fun (s:Int
 × List UInt8×List UInt8)=>bif ltM s.1 x.1.2.1 then (loopM (fun (s_1:Int×List UInt8×List UInt8)=>bif ltM s_1.1 x.1.1 then ((loopM (fun (s_2:Int ×
 List (Int×Int×Int))=>bif ltM s_2.1 (lenM o) then ((chkM s_2.1 (lenM o)).bind fun r_3=>(idxM o s_2.1).bind fun r_4=>(remM (wrap .i64 (s_2.1 +
 1)) (lenM o)).bind fun r_5=>(chkM r_5 (lenM o)).bind fun r_6=>(idxM o r_5).bind fun r_7=>(m48 ((s_1.1,s.1),(wrap .i64 (s_1.1+1),s.1),r_4.1,
 r_4.2.1,r_4.2.2)).bind fun r_8=>(m48 ((s_1.1,s.1),(wrap .i64 (s_1.1+1),s.1),r_7.1,r_7.2.1,r_7.2.2)).bind fun r_9=>(bif leM 0 r_8 then
 ((bif PE.notM (eqM (lenM s_2.2) 0) then chkM (wrap .i64 (lenM s_2.2-1)) (lenM s_2.2) else some ()).bind fun r_10=>(bif PE.notM (eqM (lenM s_2.2) 0)
 then idxM s_2.2 (wrap .i64 (lenM s_2.2-1)) else some (0,0,0)).bind fun r_11=>bif PE.orM (eqM (lenM s_2.2) 0) (PE.notM (PE.andM (eqM r_11.1 r_4.1)
 (PE.andM (eqM r_11.2.1 r_4.2.1) (eqM r_11.2.2 r_4.2.2)))) then (appM (nat_lit 24) s_2.2 [(r_4.1,r_4.2.1,r_4.2.2)]).bind fun r=>some r else some
 s_2.2).bind fun (ov:List (Int×Int×Int))=>some ov else some s_2.2).bind fun o_1=>bif PE.orM (PE.andM (ltM 0 r_8) (ltM r_9 0)) (PE.andM (ltM r_8 0)
 (ltM 0 r_9)) then (m72 (wrap .i64 (wrap .i64 (r_4.1*r_9)-wrap .i64 (r_7.1*r_8)),wrap .i64 (wrap .i64 (r_4.2.1*r_9)
 - wrap .i64 (r_7.2.1*r_8)),wrap .i64 (wrap .i64 (r_4.2.2*r_9)-wrap .i64 (r_7.2.2*r_8)))).bind fun r_10=>((bif PE.notM
 (eqM (lenM o_1) 0) then chkM (wrap .i64 (lenM o_1-1)) (lenM o_1) else some ()).bind fun r_11=>(bif PE.notM (eqM (lenM o_1) 0) then idxM o_1 (wrap
 IntKind.i64 (lenM o_1-1)) else some (0,0,0)).bind fun r_12=>bif PE.orM (eqM (lenM o_1) 0) (PE.notM (PE.andM (eqM r_12.1 r_10.1) (PE.andM (eqM r_12.2.1
 r_10.2.1) (eqM r_12.2.2 r_10.2.2)))) then (appM (nat_lit 24) o_1 [(r_10.1,r_10.2.1,r_10.2.2)]).bind fun r=>some r else some o_1).bind fun (ov:List (Int
 × Int×Int))=>some ov else some o_1).bind fun o=>some (Sum.inl (wrap .i64 (s_2.1+1),o)) else some (Sum.inr s_2.2)) (0,[])).bind fun o_1=>bif
 eqM (lenM o_1) 0 then some o_1 else (loopM (fun (s_2:Int×List (Int×Int×Int))=>bif ltM s_2.1 (lenM o_1) then ((chkM s_2.1 (lenM o_1)).bind fun r_3 =>
 (idxM o_1 s_2.1).bind fun r_4=>(remM (wrap .i64 (s_2.1+1)) (lenM o_1)).bind fun r_5=>(chkM r_5 (lenM o_1)).bind fun r_6=>(idxM o_1 r_5).bind
 fun r_7=>(m48 ((wrap .i64 (s_1.1+1),s.1),(wrap .i64 (s_1.1+1),wrap .i64 (s.1+1)),r_4.1,r_4.2.1,r_4.2.2)).bind fun r_8 =>
 (m48 ((wrap .i64 (s_1.1+1),s.1),(wrap .i64 (s_1.1+1),wrap .i64 (s.1+1)),r_7.1,r_7.2.1,r_7.2.2)).bind fun r_9=>(bif leM 0
 r_8 then ((bif PE.notM (eqM (lenM s_2.2) 0) then chkM (wrap .i64 (lenM s_2.2-1)) (lenM s_2.2) else some ()).bind fun r_10=>(bif PE.notM (eqM (lenM
 s_2.2) 0) then idxM s_2.2 (wrap .i64 (lenM s_2.2-1)) else some (0,0,0)).bind fun r_11=>bif PE.orM (eqM (lenM s_2.2) 0) (PE.notM (PE.andM (eqM
 r_11.1 r_4.1) (PE.andM (eqM r_11.2.1 r_4.2.1) (eqM r_11.2.2 r_4.2.2)))) then (appM (nat_lit 24) s_2.2 [(r_4.1,r_4.2.1,r_4.2.2)]).bind fun r=>some r else
 some s_2.2).bind fun (ov:List (Int×Int×Int))=>some ov else some s_2.2).bind fun o_2=>bif PE.orM (PE.andM (ltM 0 r_8) (ltM r_9 0)) (PE.andM (ltM r_8
 0) (ltM 0 r_9)) then (m72 (wrap .i64 (wrap .i64 (r_4.1*r_9)-wrap .i64 (r_7.1*r_8)),wrap .i64 (wrap .i64 (r_4.2.1 *
 r_9)-wrap .i64 (r_7.2.1*r_8)),wrap .i64 (wrap .i64 (r_4.2.2*r_9)-wrap .i64 (r_7.2.2*r_8)))).bind fun r_10=>((bif
 PE.notM (eqM (lenM o_2) 0) then chkM (wrap .i64 (lenM o_2-1)) (lenM o_2) else some ()).bind fun r_11=>(bif PE.notM (eqM (lenM o_2) 0) then idxM o_2
 (wrap .i64 (lenM o_2-1)) else some (0,0,0)).bind fun r_12=>bif PE.orM (eqM (lenM o_2) 0) (PE.notM (PE.andM (eqM r_12.1 r_10.1) (PE.andM (eqM
 r_12.2.1 r_10.2.1) (eqM r_12.2.2 r_10.2.2)))) then (appM (nat_lit 24) o_2 [(r_10.1,r_10.2.1,r_10.2.2)]).bind fun r=>some r else some o_2).bind fun (ov :
 List (Int×Int×Int))=>some ov else some o_2).bind fun o=>some (Sum.inl (wrap .i64 (s_2.1+1),o)) else some (Sum.inr s_2.2)) (0,[])).bind fun
 o_2=>bif eqM (lenM o_2) 0 then some o_2 else (loopM (fun (s_2:Int×List (Int×Int×Int))=>bif ltM s_2.1 (lenM o_2) then ((chkM s_2.1 (lenM o_2)).bind
 fun r_3=>(idxM o_2 s_2.1).bind fun r_4=>(remM (wrap .i64 (s_2.1+1)) (lenM o_2)).bind fun r_5=>(chkM r_5 (lenM o_2)).bind fun r_6=>(idxM o_2
 r_5).bind fun r_7=>(m48 ((wrap .i64 (s_1.1+1),wrap .i64 (s.1+1)),(s_1.1,s.1),r_4.1,r_4.2.1,r_4.2.2)).bind fun r_8=>(m48 ((wrap
 IntKind.i64 (s_1.1+1),wrap .i64 (s.1+1)),(s_1.1,s.1),r_7.1,r_7.2.1,r_7.2.2)).bind fun r_9=>(bif leM 0 r_8 then ((bif PE.notM (eqM (lenM
 s_2.2) 0) then chkM (wrap .i64 (lenM s_2.2-1)) (lenM s_2.2) else some ()).bind fun r_10=>(bif PE.notM (eqM (lenM s_2.2) 0) then idxM s_2.2 (wrap
 IntKind.i64 (lenM s_2.2-1)) else some (0,0,0)).bind fun r_11=>bif PE.orM (eqM (lenM s_2.2) 0) (PE.notM (PE.andM (eqM r_11.1 r_4.1) (PE.andM (eqM
 r_11.2.1 r_4.2.1) (eqM r_11.2.2 r_4.2.2)))) then (appM (nat_lit 24) s_2.2 [(r_4.1,r_4.2.1,r_4.2.2)]).bind fun r=>some r else some s_2.2).bind fun (ov :
 List (Int×Int×Int))=>some ov else some s_2.2).bind fun o_3=>bif PE.orM (PE.andM (ltM 0 r_8) (ltM r_9 0)) (PE.andM (ltM r_8 0) (ltM 0 r_9)) then (m72
 (wrap .i64 (wrap .i64 (r_4.1*r_9)-wrap .i64 (r_7.1*r_8)),wrap .i64 (wrap .i64 (r_4.2.1*r_9)-wrap IntKind.i64
 (r_7.2.1*r_8)),wrap .i64 (wrap .i64 (r_4.2.2*r_9)-wrap .i64 (r_7.2.2*r_8)))).bind fun r_10=>((bif PE.notM (eqM (lenM o_3) 0)
 then chkM (wrap .i64 (lenM o_3-1)) (lenM o_3) else some ()).bind fun r_11=>(bif PE.notM (eqM (lenM o_3) 0) then idxM o_3 (wrap .i64 (lenM
 o_3-1)) else some (0,0,0)).bind fun r_12=>bif PE.orM (eqM (lenM o_3) 0) (PE.notM (PE.andM (eqM r_12.1 r_10.1) (PE.andM (eqM r_12.2.1 r_10.2.1) (eqM
 r_12.2.2 r_10.2.2)))) then (appM (nat_lit 24) o_3 [(r_10.1,r_10.2.1,r_10.2.2)]).bind fun r=>some r else some o_3).bind fun (ov:List (Int×Int×Int))
 => some ov else some o_3).bind fun o=>some (Sum.inl (wrap .i64 (s_2.1+1),o)) else some (Sum.inr s_2.2)) (0,[])).bind fun o=>bif eqM (lenM o) 0
 then some o else some o).bind fun o_1=>(loopM (fun (s_2:Int×List UInt8×List UInt8)=>bif ltM s_2.1 (lenM o_1) then (chkM 0 (lenM o_1)).bind fun r_3
 => (idxM o_1 0).bind fun r_4=>(chkM (wrap .i64 (s_2.1-1)) (lenM o_1)).bind fun r_5=>(idxM o_1 (wrap .i64 (s_2.1-1))).bind fun r_6 =>
 (chkM s_2.1 (lenM o_1)).bind fun r_7=>(idxM o_1 s_2.1).bind fun r_8=>(((idxM x.1.2.2.2 (wrap .i64 (wrap .i64 (s.1*wrap .i64 (x.1.1
 + 1))+s_1.1))).bind fun r=>some r).bind fun (ov_2:Int)=>(m48 ((wrap .i64 (s_1.1+1),s.1),(wrap .i64 (s_1.1+1),wrap IntKind.i64
 (s.1+1)),r_4.1,r_4.2.1,r_4.2.2)).bind fun r_9=>((idxM x.1.2.2.2 (wrap .i64 (wrap .i64 (s.1*wrap .i64 (x.1.1+1))+wrap
 IntKind.i64 (s_1.1+1)))).bind fun r=>some r).bind fun (ov_3:Int)=>(m48 ((wrap .i64 (s_1.1+1),wrap .i64 (s.1+1)),(s_1.1,s.1),
 r_4.1,r_4.2.1,r_4.2.2)).bind fun r_10=>((idxM x.1.2.2.2 (wrap .i64 (wrap .i64 (wrap .i64 (s.1+1)*wrap .i64 (x.1.1+1)) +
 wrap .i64 (s_1.1+1)))).bind fun r=>some r).bind fun (ov_4:Int)=>(m48 ((s_1.1,s.1),(wrap .i64 (s_1.1+1),s.1),r_4.1,r_4.2.1,
 r_4.2.2)).bind fun r=>some (wrap .i64 (wrap .i64 (wrap .i64 (0+wrap .i64 (ov_2*r_9))+wrap .i64 (ov_3*r_10)) +
 wrap .i64 (ov_4*r)))).bind fun (ov_2:Int)=>(((idxM x.1.2.2.2 (wrap .i64 (wrap .i64 (s.1*wrap .i64 (x.1.1+1)) +
 s_1.1))).bind fun r=>some r).bind fun (ov_3:Int)=>(m48 ((wrap .i64 (s_1.1+1),s.1),(wrap .i64 (s_1.1+1),wrap .i64 (s.1+1)),
 r_6.1,r_6.2.1,r_6.2.2)).bind fun r_9=>((idxM x.1.2.2.2 (wrap .i64 (wrap .i64 (s.1*wrap .i64 (x.1.1+1))+wrap .i64 (s_1.1
 + 1)))).bind fun r=>some r).bind fun (ov_4:Int)=>(m48 ((wrap .i64 (s_1.1+1),wrap .i64 (s.1+1)),(s_1.1,s.1),r_6.1,r_6.2.1,
 r_6.2.2)).bind fun r_10=>((idxM x.1.2.2.2 (wrap .i64 (wrap .i64 (wrap .i64 (s.1+1)*wrap .i64 (x.1.1+1))+wrap IntKind.i64
 (s_1.1+1)))).bind fun r=>some r).bind fun (ov_5:Int)=>(m48 ((s_1.1,s.1),(wrap .i64 (s_1.1+1),s.1),r_6.1,r_6.2.1,r_6.2.2)).bind fun r =>
 some (wrap .i64 (wrap .i64 (wrap .i64 (0+wrap .i64 (ov_3*r_9))+wrap .i64 (ov_4*r_10))+wrap .i64 (ov_5 *
 r)))).bind fun (ov_3:Int)=>(((idxM x.1.2.2.2 (wrap .i64 (wrap .i64 (s.1*wrap .i64 (x.1.1+1))+s_1.1))).bind fun r=>some
 r).bind fun (ov_4:Int)=>(m48 ((wrap .i64 (s_1.1+1),s.1),(wrap .i64 (s_1.1+1),wrap .i64 (s.1+1)),r_8.1,r_8.2.1,
 r_8.2.2)).bind fun r_9=>((idxM x.1.2.2.2 (wrap .i64 (wrap .i64 (s.1*wrap .i64 (x.1.1+1))+wrap .i64 (s_1.1+1)))).bind fun
 r=>some r).bind fun (ov_5:Int)=>(m48 ((wrap .i64 (s_1.1+1),wrap .i64 (s.1+1)),(s_1.1,s.1),r_8.1,r_8.2.1,r_8.2.2)).bind fun r_10
 => ((idxM x.1.2.2.2 (wrap .i64 (wrap .i64 (wrap .i64 (s.1+1)*wrap .i64 (x.1.1+1))+wrap .i64 (s_1.1+1)))).bind fun
 r=>some r).bind fun (ov_6:Int)=>(m48 ((s_1.1,s.1),(wrap .i64 (s_1.1+1),s.1),r_8.1,r_8.2.1,r_8.2.2)).bind fun r=>some (wrap IntKind.i64
 (wrap .i64 (wrap .i64 (0+wrap .i64 (ov_4*r_9))+wrap .i64 (ov_5*r_10))+wrap .i64 (ov_6*r)))).bind fun (ov_4 :
 Int)=>(m25 (wrap .i64 (wrap .i64 (wrap .i64 (wrap .i64 (r_4.1*wrap .i64 (wrap .i64 (r_6.2.1*r_8.2.2)-wrap
 IntKind.i64 (r_6.2.2*r_8.2.1)))-wrap .i64 (r_4.2.1*wrap .i64 (wrap .i64 (r_6.1*r_8.2.2)-wrap .i64 (r_6.2.2*r_8.1)))) +
 wrap .i64 (r_4.2.2*wrap .i64 (wrap .i64 (r_6.1*r_8.2.1)-wrap .i64 (r_6.2.1*r_8.1))))*wrap .i64 (wrap IntKind.i64
 (wrap .i64 (wrap .i64 (ov_2*r_6.2.2)*r_8.2.2)+wrap .i64 (wrap .i64 (ov_3*r_4.2.2)*r_8.2.2))+wrap .i64 (wrap
 IntKind.i64 (ov_4*r_4.2.2)*r_6.2.2))),wrap .i64 (wrap .i64 (6*wrap .i64 (wrap .i64 (r_4.2.2*r_6.2.2)*r_8.2.2))*wrap
 IntKind.i64 (wrap .i64 (r_4.2.2*r_6.2.2)*r_8.2.2)))).bind fun r_9=>(m49 ((s_2.2.1,s_2.2.2),r_9.1.1,r_9.1.2)).bind fun r=>some (Sum.inl (wrap
 IntKind.i64 (s_2.1+1),r.1.1,r.1.2)) else some (Sum.inr (s_2.2.1,s_2.2.2))) (2,s_1.2.1,s_1.2.2)).bind fun o_2=>((loopM (fun (s_2:Int×List (Int ×
 Int×Int))=>bif ltM s_2.1 (lenM o) then ((chkM s_2.1 (lenM o)).bind fun r_3=>(idxM o s_2.1).bind fun r_4=>(remM (wrap .i64 (s_2.1+1)) (lenM
 o)).bind fun r_5=>(chkM r_5 (lenM o)).bind fun r_6=>(idxM o r_5).bind fun r_7=>(m48 ((s_1.1,s.1),(wrap .i64 (s_1.1+1),wrap .i64 (s.1
 + 1)),r_4.1,r_4.2.1,r_4.2.2)).bind fun r_8=>(m48 ((s_1.1,s.1),(wrap .i64 (s_1.1+1),wrap .i64 (s.1+1)),r_7.1,r_7.2.1,
 r_7.2.2)).bind fun r_9=>(bif leM 0 r_8 then ((bif PE.notM (eqM (lenM s_2.2) 0) then chkM (wrap .i64 (lenM s_2.2-1)) (lenM s_2.2) else some ()).bind
 fun r_10=>(bif PE.notM (eqM (lenM s_2.2) 0) then idxM s_2.2 (wrap .i64 (lenM s_2.2-1)) else some (0,0,0)).bind fun r_11=>bif PE.orM (eqM (lenM
 s_2.2) 0) (PE.notM (PE.andM (eqM r_11.1 r_4.1) (PE.andM (eqM r_11.2.1 r_4.2.1) (eqM r_11.2.2 r_4.2.2)))) then (appM (nat_lit 24) s_2.2 [(r_4.1,r_4.2.1,
 r_4.2.2)]).bind fun r=>some r else some s_2.2).bind fun (ov:List (Int×Int×Int))=>some ov else some s_2.2).bind fun o_3=>bif PE.orM (PE.andM (ltM 0
 r_8) (ltM r_9 0)) (PE.andM (ltM r_8 0) (ltM 0 r_9)) then (m72 (wrap .i64 (wrap .i64 (r_4.1*r_9)-wrap .i64 (r_7.1*r_8)),wrap
 IntKind.i64 (wrap .i64 (r_4.2.1*r_9)-wrap .i64 (r_7.2.1*r_8)),wrap .i64 (wrap .i64 (r_4.2.2*r_9)-wrap IntKind.i64
 (r_7.2.2*r_8)))).bind fun r_10=>((bif PE.notM (eqM (lenM o_3) 0) then chkM (wrap .i64 (lenM o_3-1)) (lenM o_3) else some ()).bind fun r_11 =>
 (bif PE.notM (eqM (lenM o_3) 0) then idxM o_3 (wrap .i64 (lenM o_3-1)) else some (0,0,0)).bind fun r_12=>bif PE.orM (eqM (lenM o_3) 0) (PE.notM
 (PE.andM (eqM r_12.1 r_10.1) (PE.andM (eqM r_12.2.1 r_10.2.1) (eqM r_12.2.2 r_10.2.2)))) then (appM (nat_lit 24) o_3 [(r_10.1,r_10.2.1,r_10.2.2)]).bind fun
 r=>some r else some o_3).bind fun (ov:List (Int×Int×Int))=>some ov else some o_3).bind fun o=>some (Sum.inl (wrap .i64 (s_2.1+1),o))
 else some (Sum.inr s_2.2)) (0,[])).bind fun o_3=>bif eqM (lenM o_3) 0 then some o_3 else (loopM (fun (s_2:Int×List (Int×Int×Int))=>bif ltM s_2.1
 (lenM o_3) then ((chkM s_2.1 (lenM o_3)).bind fun r_3=>(idxM o_3 s_2.1).bind fun r_4=>(remM (wrap .i64 (s_2.1+1)) (lenM o_3)).bind fun r_5 =>
 (chkM r_5 (lenM o_3)).bind fun r_6=>(idxM o_3 r_5).bind fun r_7=>(m48 ((wrap .i64 (s_1.1+1),wrap .i64 (s.1+1)),(s_1.1,wrap
 IntKind.i64 (s.1+1)),r_4.1,r_4.2.1,r_4.2.2)).bind fun r_8=>(m48 ((wrap .i64 (s_1.1+1),wrap .i64 (s.1+1)),(s_1.1,wrap IntKind.i64
 (s.1+1)),r_7.1,r_7.2.1,r_7.2.2)).bind fun r_9=>(bif leM 0 r_8 then ((bif PE.notM (eqM (lenM s_2.2) 0) then chkM (wrap .i64 (lenM s_2.2-1))
 (lenM s_2.2) else some ()).bind fun r_10=>(bif PE.notM (eqM (lenM s_2.2) 0) then idxM s_2.2 (wrap .i64 (lenM s_2.2-1)) else some (0,0,0)).bind
 fun r_11=>bif PE.orM (eqM (lenM s_2.2) 0) (PE.notM (PE.andM (eqM r_11.1 r_4.1) (PE.andM (eqM r_11.2.1 r_4.2.1) (eqM r_11.2.2 r_4.2.2)))) then (appM (nat_lit
 24) s_2.2 [(r_4.1,r_4.2.1,r_4.2.2)]).bind fun r=>some r else some s_2.2).bind fun (ov:List (Int×Int×Int))=>some ov else some s_2.2).bind fun o_4
 => bif PE.orM (PE.andM (ltM 0 r_8) (ltM r_9 0)) (PE.andM (ltM r_8 0) (ltM 0 r_9)) then (m72 (wrap .i64 (wrap .i64 (r_4.1*r_9)-wrap
 IntKind.i64 (r_7.1*r_8)),wrap .i64 (wrap .i64 (r_4.2.1*r_9)-wrap .i64 (r_7.2.1*r_8)),wrap .i64 (wrap IntKind.i64
 (r_4.2.2*r_9)-wrap .i64 (r_7.2.2*r_8)))).bind fun r_10=>((bif PE.notM (eqM (lenM o_4) 0) then chkM (wrap .i64 (lenM o_4-1)) (lenM o_4)
 else some ()).bind fun r_11=>(bif PE.notM (eqM (lenM o_4) 0) then idxM o_4 (wrap .i64 (lenM o_4-1)) else some (0,0,0)).bind fun r_12=>bif
 PE.orM (eqM (lenM o_4) 0) (PE.notM (PE.andM (eqM r_12.1 r_10.1) (PE.andM (eqM r_12.2.1 r_10.2.1) (eqM r_12.2.2 r_10.2.2)))) then (appM (nat_lit 24) o_4
 [(r_10.1,r_10.2.1,r_10.2.2)]).bind fun r=>some r else some o_4).bind fun (ov:List (Int×Int×Int))=>some ov else some o_4).bind fun o=>some
 (Sum.inl (wrap .i64 (s_2.1+1),o)) else some (Sum.inr s_2.2)) (0,[])).bind fun o_4=>bif eqM (lenM o_4) 0 then some o_4 else (loopM (fun (s_2:Int
 × List (Int×Int×Int))=>bif ltM s_2.1 (lenM o_4) then ((chkM s_2.1 (lenM o_4)).bind fun r_3=>(idxM o_4 s_2.1).bind fun r_4=>(remM (wrap IntKind.i64
 (s_2.1+1)) (lenM o_4)).bind fun r_5=>(chkM r_5 (lenM o_4)).bind fun r_6=>(idxM o_4 r_5).bind fun r_7=>(m48 ((s_1.1,wrap .i64 (s.1+1)),
 (s_1.1,s.1),r_4.1,r_4.2.1,r_4.2.2)).bind fun r_8=>(m48 ((s_1.1,wrap .i64 (s.1+1)),(s_1.1,s.1),r_7.1,r_7.2.1,r_7.2.2)).bind fun r_9 =>
 (bif leM 0 r_8 then ((bif PE.notM (eqM (lenM s_2.2) 0) then chkM (wrap .i64 (lenM s_2.2-1)) (lenM s_2.2) else some ()).bind fun r_10=>(bif PE.notM
 (eqM (lenM s_2.2) 0) then idxM s_2.2 (wrap .i64 (lenM s_2.2-1)) else some (0,0,0)).bind fun r_11=>bif PE.orM (eqM (lenM s_2.2) 0) (PE.notM
 (PE.andM (eqM r_11.1 r_4.1) (PE.andM (eqM r_11.2.1 r_4.2.1) (eqM r_11.2.2 r_4.2.2)))) then (appM (nat_lit 24) s_2.2 [(r_4.1,r_4.2.1,r_4.2.2)]).bind fun r =>
 some r else some s_2.2).bind fun (ov:List (Int×Int×Int))=>some ov else some s_2.2).bind fun o_5=>bif PE.orM (PE.andM (ltM 0 r_8) (ltM r_9 0))
 (PE.andM (ltM r_8 0) (ltM 0 r_9)) then (m72 (wrap .i64 (wrap .i64 (r_4.1*r_9)-wrap .i64 (r_7.1*r_8)),wrap .i64 (wrap
 IntKind.i64 (r_4.2.1*r_9)-wrap .i64 (r_7.2.1*r_8)),wrap .i64 (wrap .i64 (r_4.2.2*r_9)-wrap .i64 (r_7.2.2*r_8)))).bind
 fun r_10=>((bif PE.notM (eqM (lenM o_5) 0) then chkM (wrap .i64 (lenM o_5-1)) (lenM o_5) else some ()).bind fun r_11=>(bif PE.notM (eqM (lenM
 o_5) 0) then idxM o_5 (wrap .i64 (lenM o_5-1)) else some (0,0,0)).bind fun r_12=>bif PE.orM (eqM (lenM o_5) 0) (PE.notM (PE.andM (eqM r_12.1
 r_10.1) (PE.andM (eqM r_12.2.1 r_10.2.1) (eqM r_12.2.2 r_10.2.2)))) then (appM (nat_lit 24) o_5 [(r_10.1,r_10.2.1,r_10.2.2)]).bind fun r=>some r else some
 o_5).bind fun (ov:List (Int×Int×Int))=>some ov else some o_5).bind fun o=>some (Sum.inl (wrap .i64 (s_2.1+1),o)) else some (Sum.inr
 s_2.2)) (0,[])).bind fun o=>bif eqM (lenM o) 0 then some o else some o).bind fun o_3=>(loopM (fun (s_2:Int×List UInt8×List UInt8)=>bif ltM s_2.1
 (lenM o_3) then (chkM 0 (lenM o_3)).bind fun r_3=>(idxM o_3 0).bind fun r_4=>(chkM (wrap .i64 (s_2.1-1)) (lenM o_3)).bind fun r_5=>(idxM o_3
 (wrap .i64 (s_2.1-1))).bind fun r_6=>(chkM s_2.1 (lenM o_3)).bind fun r_7=>(idxM o_3 s_2.1).bind fun r_8=>(((idxM x.1.2.2.2 (wrap IntKind.i64
 (wrap .i64 (s.1*wrap .i64 (x.1.1+1))+s_1.1))).bind fun r=>some r).bind fun (ov_2:Int)=>(m48 ((wrap .i64 (s_1.1+1),wrap
 IntKind.i64 (s.1+1)),(s_1.1,wrap .i64 (s.1+1)),r_4.1,r_4.2.1,r_4.2.2)).bind fun r_9=>((idxM x.1.2.2.2 (wrap .i64 (wrap IntKind.i64
 (wrap .i64 (s.1+1)*wrap .i64 (x.1.1+1))+wrap .i64 (s_1.1+1)))).bind fun r=>some r).bind fun (ov_3:Int)=>(m48 ((s_1.1,
 wrap .i64 (s.1+1)),(s_1.1,s.1),r_4.1,r_4.2.1,r_4.2.2)).bind fun r_10=>((idxM x.1.2.2.2 (wrap .i64 (wrap .i64 (wrap IntKind.i64
 (s.1+1)*wrap .i64 (x.1.1+1))+s_1.1))).bind fun r=>some r).bind fun (ov_4:Int)=>(m48 ((s_1.1,s.1),(wrap .i64 (s_1.1+1),wrap
 IntKind.i64 (s.1+1)),r_4.1,r_4.2.1,r_4.2.2)).bind fun r=>some (wrap .i64 (wrap .i64 (wrap .i64 (0+wrap .i64 (ov_2*r_9))
 + wrap .i64 (ov_3*r_10))+wrap .i64 (ov_4*r)))).bind fun (ov_2:Int)=>(((idxM x.1.2.2.2 (wrap .i64 (wrap .i64 (s.1*wrap
 IntKind.i64 (x.1.1+1))+s_1.1))).bind fun r=>some r).bind fun (ov_3:Int)=>(m48 ((wrap .i64 (s_1.1+1),wrap .i64 (s.1+1)),(s_1.1,
 wrap .i64 (s.1+1)),r_6.1,r_6.2.1,r_6.2.2)).bind fun r_9=>((idxM x.1.2.2.2 (wrap .i64 (wrap .i64 (wrap .i64 (s.1+1)*wrap
 IntKind.i64 (x.1.1+1))+wrap .i64 (s_1.1+1)))).bind fun r=>some r).bind fun (ov_4:Int)=>(m48 ((s_1.1,wrap .i64 (s.1+1)),(s_1.1,
 s.1),r_6.1,r_6.2.1,r_6.2.2)).bind fun r_10=>((idxM x.1.2.2.2 (wrap .i64 (wrap .i64 (wrap .i64 (s.1+1)*wrap .i64 (x.1.1 +
 1))+s_1.1))).bind fun r=>some r).bind fun (ov_5:Int)=>(m48 ((s_1.1,s.1),(wrap .i64 (s_1.1+1),wrap .i64 (s.1+1)),r_6.1,r_6.2.1,
 r_6.2.2)).bind fun r=>some (wrap .i64 (wrap .i64 (wrap .i64 (0+wrap .i64 (ov_3*r_9))+wrap .i64 (ov_4*r_10)) +
 wrap .i64 (ov_5*r)))).bind fun (ov_3:Int)=>(((idxM x.1.2.2.2 (wrap .i64 (wrap .i64 (s.1*wrap .i64 (x.1.1+1)) +
 s_1.1))).bind fun r=>some r).bind fun (ov_4:Int)=>(m48 ((wrap .i64 (s_1.1+1),wrap .i64 (s.1+1)),(s_1.1,wrap .i64 (s.1+1)),
 r_8.1,r_8.2.1,r_8.2.2)).bind fun r_9=>((idxM x.1.2.2.2 (wrap .i64 (wrap .i64 (wrap .i64 (s.1+1)*wrap .i64 (x.1.1+1)) +
 wrap .i64 (s_1.1+1)))).bind fun r=>some r).bind fun (ov_5:Int)=>(m48 ((s_1.1,wrap .i64 (s.1+1)),(s_1.1,s.1),r_8.1,r_8.2.1,
 r_8.2.2)).bind fun r_10=>((idxM x.1.2.2.2 (wrap .i64 (wrap .i64 (wrap .i64 (s.1+1)*wrap .i64 (x.1.1+1))+s_1.1))).bind
 fun r=>some r).bind fun (ov_6:Int)=>(m48 ((s_1.1,s.1),(wrap .i64 (s_1.1+1),wrap .i64 (s.1+1)),r_8.1,r_8.2.1,r_8.2.2)).bind fun r
 => some (wrap .i64 (wrap .i64 (wrap .i64 (0+wrap .i64 (ov_4*r_9))+wrap .i64 (ov_5*r_10))+wrap .i64 (ov_6 *
 r)))).bind fun (ov_4:Int)=>(m25 (wrap .i64 (wrap .i64 (wrap .i64 (wrap .i64 (r_4.1*wrap .i64 (wrap IntKind.i64
 (r_6.2.1*r_8.2.2)-wrap .i64 (r_6.2.2*r_8.2.1)))-wrap .i64 (r_4.2.1*wrap .i64 (wrap .i64 (r_6.1*r_8.2.2)-wrap
 IntKind.i64 (r_6.2.2*r_8.1))))+wrap .i64 (r_4.2.2*wrap .i64 (wrap .i64 (r_6.1*r_8.2.1)-wrap .i64 (r_6.2.1*r_8.1)))) *
 wrap .i64 (wrap .i64 (wrap .i64 (wrap .i64 (ov_2*r_6.2.2)*r_8.2.2)+wrap .i64 (wrap .i64 (ov_3*r_4.2.2) *
 r_8.2.2))+wrap .i64 (wrap .i64 (ov_4*r_4.2.2)*r_6.2.2))),wrap .i64 (wrap .i64 (6*wrap .i64 (wrap IntKind.i64
 (r_4.2.2*r_6.2.2)*r_8.2.2))*wrap .i64 (wrap .i64 (r_4.2.2*r_6.2.2)*r_8.2.2)))).bind fun r_9=>(m49 ((s_2.2.1,s_2.2.2),r_9.1.1,
 r_9.1.2)).bind fun r=>some (Sum.inl (wrap .i64 (s_2.1+1),r.1.1,r.1.2)) else some (Sum.inr (s_2.2.1,s_2.2.2))) (2,o_2.1,o_2.2)).bind fun o =>
 some (Sum.inl (wrap .i64 (s_1.1+1),o.1,o.2)) else some (Sum.inr (s_1.2.1,s_1.2.2))) (0,s.2.1,s.2.2)).bind fun o=>some (Sum.inl (wrap
 IntKind.i64 (s.1+1),o.1,o.2)) else some (Sum.inr (s.2.1,s.2.2))) (0,r_2.1.1,r_2.1.2)).bind fun o=>some (o.1,o.2)).bind fun (ov:List UInt8×List
 UInt8)=>some ((ov_1.1,ov_1.2),(ov.1,ov.2),0)
theorem c17:SpecOK Tryz.prog 17 ⟨as17,rs17,m17⟩ :=
 fc (TabOK.drop tabs49OK [46]) [] an17 Tryz.f17 fun x=>by kernel_rfl
def tabs17:Tabs:=Tabs.add tabs49 17 ⟨as17,rs17,m17⟩
theorem tabs17OK:TabOK Tryz.prog tabs17:=TabOK.add tabs49OK c17 Tryz.call17
end
end Go.Proofs.YtechphmljdgoaaaGreatDoor
namespace Go.Proofs.YtechphmljdgoaaaGreatDoor
open Go Go.Abs Go.PE Go.Proofs
open Go.IntKind (wrap)
set_option maxRecDepth 100000
noncomputable section

/-! putlog/field.Above -/
def as18:List Ty:=[(.pair tI (.pair tI (.pair tL tL))),tI]
def rs18:List Ty:=[(.pair .str .str),(.pair .str .str),tI]
def an18:Ann:=.seq (.a) (.seq (.a) (.seq (.reg [] [] [.s [0] [],z0,.r,z0,z0,z0,.s [] [11],.s [] [12],.s [11] [11],.s [12] [12]] (.call [] [] (.seq (.a) (.seq (.reg [0,0,0,4,14,31,0,0,0,256,959,2047,4095,8191] (ra 0 14 ([])) [z0,.s [4] [],z0,.s [4] [],.k [7,8],.k [],z0,.s [4] [],z0,.s [4] [],.k [9,10],.k [],.s [5] [5],.s [6] [6]] (.kp [] ⟨[(10,.r (.c (.f 92 [] [.p 7 0,.p 8 0])))],[],[],[.box [.d (.d tL)],.box [.d (.d tI),.d (.d tI),.d (.d tL),.d (.d tL)]]⟩ (.seq (.a) (.a)) (.kp [30] ⟨[(11,.r (.s [.d (.d .str),.d (.d .str)]))],[],[],[]⟩ (.seq (.a) (.seq (.a) (.seq (.a) (.seq (.seq (.reg [] [] [.s [0] [],.r] (.call [] [] (.seq (.a) (.a)) (.a))) (.block (.call [] [] (.seq (.a) (.block (.loop ⟨[(9,.r (.c (.d (.d tI))))],(3::4::5::6::ra 10 39 ([])),[(11,.box [.d (.d .str),.d (.d .str)]),(14,.lp .ready)],[]⟩ [(.exit 0,⟨[],(3::4::5::6::ra 9 40 ([])),[(11,.box [.d (.d .str),.d (.d .str)]),(14,.lp .ready)],[]⟩)] (.seq (.a) (.seq (.a) (.seq (.block (.seq (.a) (.seq (.a) (.block (.loop ⟨[(14,.r (.c (.d (.d tI))))],(4::5::6::ra 15 33 ([])),[(11,.box [.d (.d .str),.d (.d .str)]),(14,.lp .ready)],[]⟩ [(.exit 2,⟨[],(4::5::6::ra 14 34 ([])),[(11,.box [.d (.d .str),.d (.d .str)]),(14,.lp .ready)],[]⟩)] (.seq (.a) (.seq (.a) (.seq (.block (.seq (.a) (.seq (.a) (.seq (.reg [] [] [z0,.s [15] [],z0,z0,z0,z0,.s [16] [],z0,.r,z0,z0,z0,.s [15] [],.s [16] [],z0,z0,z0,z0,z0,.r,z0,z0] (.call [30] [] (.seq (.a) (.join [(.norm,⟨[],(9::ra 18 96 ([])),[(11,.box [.d (.d .str),.d (.d .str)])],[]⟩)] (.block (.seq (.reg [0,0,2,7,0,0,32,127,0,0,512,2047,4095,8191] (ra 0 14 ([])) [.s [9] [],z0,.s [17] [],.k [],.s [9] [],z0,.s [17] [],.k [],.s [9] [],z0,.s [17] [],.k [],.s [] [18],z0] (.kp [] ⟨[(21,.r (.c (.d (.d tI))))],[],[],[]⟩ (.seq (.a) (.a)) (.kp [] ⟨[(25,.r (.c (.d (.d tI))))],[],[],[]⟩ (.seq (.a) (.a)) (.kp [] ⟨[(29,.r (.c (.d (.d tI))))],[],[],[]⟩ (.seq (.a) (.a)) (.a))))) (.seq (.a) (.block (.seq (.reg [0,1,3,0,15,31] (ra 0 6 ([])) [z0,.s [18] [],.s [18] [],.s [1] [],z0,z0] (.a)) (.cond (.reg [] [] [.s [12] [],.r] (.call [] [] (.seq (.a) (.a)) (.a))) (.seq (.reg [0,1,3,0,15,31] (ra 0 6 ([])) [z0,.s [18] [],.s [18] [],.s [1] [],z0,z0] (.a)) (.cond (.seq (.reg [] [] [.s [12] [],.r] (.call [] [] (.seq (.a) (.a)) (.a))) (.reg [0,0,0,4,12,30,62,0,0,256,768,1920,4094,0,8192,24576,0,65536,196608,516096,1040384,0,2097152,6291456,0,16777216,50331648,132120576,268427264,536870911] (ra 0 30 ([])) [.s [12] [],.s [1] [],z0,.s [18] [],.s [18] [],z0,z0,.s [1] [],z0,.s [18] [],.s [18] [],z0,z0,z0,.s [18] [],.s [18] [],z0,.s [18] [],.s [18] [],z0,z0,z0,.s [18] [],.s [18] [],z0,.s [18] [],.s [18] [],z0,z0,.r] (.call [] [] (.seq (.a) (.a)) (.a)))) (.seq (.reg [0,1,3,0,15,31] (ra 0 6 ([])) [z0,.s [18] [],.s [18] [],.s [1] [],z0,z0] (.a)) (.cond (.reg [0,0,2,6,0,30,0,64,192,0,960,2046,0,4096,12288,0,32768,98304,258048,520192,0,1048576,3145728,0,8388608,25165824,66060288,134213632,268435455] (ra 0 29 ([])) [.s [12] [],z0,.s [18] [],.s [18] [],.s [1] [],z0,z0,.s [18] [],.s [18] [],.s [1] [],z0,z0,z0,.s [18] [],.s [18] [],z0,.s [18] [],.s [18] [],z0,z0,z0,.s [18] [],.s [18] [],z0,.s [18] [],.s [18] [],z0,z0,.r] (.call [] [] (.seq (.a) (.a)) (.a))) (.a))))))))))))) (.gq z0 (.gq (.s [15] []) (.gq (.s [16] []) (.gq z0 (.gq z0 (.gq z0 (.gq z0 (.gq z0 (.gq (.r) (.call [30] [] (.seq (.a) (.join [(.norm,⟨[],(9::ra 18 96 ([])),[(11,.box [.d (.d .str),.d (.d .str)])],[]⟩)] (.block (.seq (.reg [0,0,2,7,0,0,32,127,0,0,512,2047,4095,8191] (ra 0 14 ([])) [.s [9] [],z0,.s [18] [],.k [],.s [9] [],z0,.s [18] [],.k [],.s [9] [],z0,.s [18] [],.k [],.s [] [19],z0] (.kp [] ⟨[(21,.r (.c (.d (.d tI))))],[],[],[]⟩ (.seq (.a) (.a)) (.kp [] ⟨[(25,.r (.c (.d (.d tI))))],[],[],[]⟩ (.seq (.a) (.a)) (.kp [] ⟨[(29,.r (.c (.d (.d tI))))],[],[],[]⟩ (.seq (.a) (.a)) (.a))))) (.seq (.a) (.block (.seq (.reg [0,1,3,0,15,31] (ra 0 6 ([])) [z0,.s [19] [],.s [19] [],.s [1] [],z0,z0] (.a)) (.cond (.reg [] [] [.s [12] [],.r] (.call [] [] (.seq (.a) (.a)) (.a))) (.seq (.reg [0,1,3,0,15,31] (ra 0 6 ([])) [z0,.s [19] [],.s [19] [],.s [1] [],z0,z0] (.a)) (.cond (.seq (.reg [] [] [.s [12] [],.r] (.call [] [] (.seq (.a) (.a)) (.a))) (.reg [0,0,0,4,12,30,62,0,0,256,768,1920,4094,0,8192,24576,0,65536,196608,516096,1040384,0,2097152,6291456,0,16777216,50331648,132120576,268427264,536870911] (ra 0 30 ([])) [.s [12] [],.s [1] [],z0,.s [19] [],.s [19] [],z0,z0,.s [1] [],z0,.s [19] [],.s [19] [],z0,z0,z0,.s [19] [],.s [19] [],z0,.s [19] [],.s [19] [],z0,z0,z0,.s [19] [],.s [19] [],z0,.s [19] [],.s [19] [],z0,z0,.r] (.call [] [] (.seq (.a) (.a)) (.a)))) (.seq (.reg [0,1,3,0,15,31] (ra 0 6 ([])) [z0,.s [19] [],.s [19] [],.s [1] [],z0,z0] (.a)) (.cond (.reg [0,0,2,6,0,30,0,64,192,0,960,2046,0,4096,12288,0,32768,98304,258048,520192,0,1048576,3145728,0,8388608,25165824,66060288,134213632,268435455] (ra 0 29 ([])) [.s [12] [],z0,.s [19] [],.s [19] [],.s [1] [],z0,z0,.s [19] [],.s [19] [],.s [1] [],z0,z0,z0,.s [19] [],.s [19] [],z0,.s [19] [],.s [19] [],z0,z0,z0,.s [19] [],.s [19] [],z0,.s [19] [],.s [19] [],z0,z0,.r] (.call [] [] (.seq (.a) (.a)) (.a))) (.a))))))))))))) (.gq z0 (.a) (.a))) (.a)) (.a)) (.a)) (.a)) (.a)) (.a)) (.a)) (.a)) (.a)))) (.a))))) (.a))))))))) (.a))))))) (.a)))) (.a))))) (.kp [] ⟨[(16,.r (.c (.f 92 [] [.p 9 0,.p 10 0])))],[],[],[.box [.d (.d tL)],.box [.d (.d tI),.d (.d tI),.d (.d tL),.d (.d tL)]]⟩ (.seq (.a) (.a)) (.kp [30] ⟨[(17,.r (.s [.d (.d .str),.d (.d .str)]))],[],[],[]⟩ (.seq (.a) (.seq (.a) (.seq (.a) (.seq (.seq (.reg [] [] [.s [0] [],.r] (.call [] [] (.seq (.a) (.a)) (.a))) (.block (.call [] [] (.seq (.a) (.block (.loop ⟨[(9,.r (.c (.d (.d tI))))],(3::4::5::6::ra 10 39 ([])),[(13,.box [.d (.d .str),.d (.d .str)]),(16,.lp .ready)],[]⟩ [(.exit 0,⟨[],(3::4::5::6::ra 9 40 ([])),[(13,.box [.d (.d .str),.d (.d .str)]),(16,.lp .ready)],[]⟩)] (.seq (.a) (.seq (.a) (.seq (.block (.seq (.a) (.seq (.a) (.block (.loop ⟨[(14,.r (.c (.d (.d tI))))],(4::5::6::ra 15 33 ([])),[(13,.box [.d (.d .str),.d (.d .str)]),(16,.lp .ready)],[]⟩ [(.exit 2,⟨[],(4::5::6::ra 14 34 ([])),[(13,.box [.d (.d .str),.d (.d .str)]),(16,.lp .ready)],[]⟩)] (.seq (.a) (.seq (.a) (.seq (.block (.seq (.a) (.seq (.a) (.seq (.reg [] [] [z0,.s [17] [],z0,z0,z0,z0,.s [18] [],z0,.r,z0,z0,z0,.s [17] [],.s [18] [],z0,z0,z0,z0,z0,.r,z0,z0] (.call [30] [] (.seq (.a) (.join [(.norm,⟨[],(9::ra 18 96 ([])),[(13,.box [.d (.d .str),.d (.d .str)])],[]⟩)] (.block (.seq (.reg [0,0,2,7,0,0,32,127,0,0,512,2047,4095,8191] (ra 0 14 ([])) [.s [11] [],z0,.s [19] [],.k [],.s [11] [],z0,.s [19] [],.k [],.s [11] [],z0,.s [19] [],.k [],.s [] [20],z0] (.kp [] ⟨[(21,.r (.c (.d (.d tI))))],[],[],[]⟩ (.seq (.a) (.a)) (.kp [] ⟨[(25,.r (.c (.d (.d tI))))],[],[],[]⟩ (.seq (.a) (.a)) (.kp [] ⟨[(29,.r (.c (.d (.d tI))))],[],[],[]⟩ (.seq (.a) (.a)) (.a))))) (.seq (.a) (.block (.seq (.reg [0,1,3,0,15,31] (ra 0 6 ([])) [z0,.s [20] [],.s [20] [],.s [1] [],z0,z0] (.a)) (.cond (.reg [] [] [.s [14] [],.r] (.call [] [] (.seq (.a) (.a)) (.a))) (.seq (.reg [0,1,3,0,15,31] (ra 0 6 ([])) [z0,.s [20] [],.s [20] [],.s [1] [],z0,z0] (.a)) (.cond (.seq (.reg [] [] [.s [14] [],.r] (.call [] [] (.seq (.a) (.a)) (.a))) (.reg [0,0,0,4,12,30,62,0,0,256,768,1920,4094,0,8192,24576,0,65536,196608,516096,1040384,0,2097152,6291456,0,16777216,50331648,132120576,268427264,536870911] (ra 0 30 ([])) [.s [14] [],.s [1] [],z0,.s [20] [],.s [20] [],z0,z0,.s [1] [],z0,.s [20] [],.s [20] [],z0,z0,z0,.s [20] [],.s [20] [],z0,.s [20] [],.s [20] [],z0,z0,z0,.s [20] [],.s [20] [],z0,.s [20] [],.s [20] [],z0,z0,.r] (.call [] [] (.seq (.a) (.a)) (.a)))) (.seq (.reg [0,1,3,0,15,31] (ra 0 6 ([])) [z0,.s [20] [],.s [20] [],.s [1] [],z0,z0] (.a)) (.cond (.reg [0,0,2,6,0,30,0,64,192,0,960,2046,0,4096,12288,0,32768,98304,258048,520192,0,1048576,3145728,0,8388608,25165824,66060288,134213632,268435455] (ra 0 29 ([])) [.s [14] [],z0,.s [20] [],.s [20] [],.s [1] [],z0,z0,.s [20] [],.s [20] [],.s [1] [],z0,z0,z0,.s [20] [],.s [20] [],z0,.s [20] [],.s [20] [],z0,z0,z0,.s [20] [],.s [20] [],z0,.s [20] [],.s [20] [],z0,z0,.r] (.call [] [] (.seq (.a) (.a)) (.a))) (.a))))))))))))) (.gq z0 (.gq (.s [17] []) (.gq (.s [18] []) (.gq z0 (.gq z0 (.gq z0 (.gq z0 (.gq z0 (.gq (.r) (.call [30] [] (.seq (.a) (.join [(.norm,⟨[],(9::ra 18 96 ([])),[(13,.box [.d (.d .str),.d (.d .str)])],[]⟩)] (.block (.seq (.reg [0,0,2,7,0,0,32,127,0,0,512,2047,4095,8191] (ra 0 14 ([])) [.s [11] [],z0,.s [20] [],.k [],.s [11] [],z0,.s [20] [],.k [],.s [11] [],z0,.s [20] [],.k [],.s [] [21],z0] (.kp [] ⟨[(21,.r (.c (.d (.d tI))))],[],[],[]⟩ (.seq (.a) (.a)) (.kp [] ⟨[(25,.r (.c (.d (.d tI))))],[],[],[]⟩ (.seq (.a) (.a)) (.kp [] ⟨[(29,.r (.c (.d (.d tI))))],[],[],[]⟩ (.seq (.a) (.a)) (.a))))) (.seq (.a) (.block (.seq (.reg [0,1,3,0,15,31] (ra 0 6 ([])) [z0,.s [21] [],.s [21] [],.s [1] [],z0,z0] (.a)) (.cond (.reg [] [] [.s [14] [],.r] (.call [] [] (.seq (.a) (.a)) (.a))) (.seq (.reg [0,1,3,0,15,31] (ra 0 6 ([])) [z0,.s [21] [],.s [21] [],.s [1] [],z0,z0] (.a)) (.cond (.seq (.reg [] [] [.s [14] [],.r] (.call [] [] (.seq (.a) (.a)) (.a))) (.reg [0,0,0,4,12,30,62,0,0,256,768,1920,4094,0,8192,24576,0,65536,196608,516096,1040384,0,2097152,6291456,0,16777216,50331648,132120576,268427264,536870911] (ra 0 30 ([])) [.s [14] [],.s [1] [],z0,.s [21] [],.s [21] [],z0,z0,.s [1] [],z0,.s [21] [],.s [21] [],z0,z0,z0,.s [21] [],.s [21] [],z0,.s [21] [],.s [21] [],z0,z0,z0,.s [21] [],.s [21] [],z0,.s [21] [],.s [21] [],z0,z0,.r] (.call [] [] (.seq (.a) (.a)) (.a)))) (.seq (.reg [0,1,3,0,15,31] (ra 0 6 ([])) [z0,.s [21] [],.s [21] [],.s [1] [],z0,z0] (.a)) (.cond (.reg [0,0,2,6,0,30,0,64,192,0,960,2046,0,4096,12288,0,32768,98304,258048,520192,0,1048576,3145728,0,8388608,25165824,66060288,134213632,268435455] (ra 0 29 ([])) [.s [14] [],z0,.s [21] [],.s [21] [],.s [1] [],z0,z0,.s [21] [],.s [21] [],.s [1] [],z0,z0,z0,.s [21] [],.s [21] [],z0,.s [21] [],.s [21] [],z0,z0,z0,.s [21] [],.s [21] [],z0,.s [21] [],.s [21] [],z0,z0,.r] (.call [] [] (.seq (.a) (.a)) (.a))) (.a))))))))))))) (.gq z0 (.a) (.a))) (.a)) (.a)) (.a)) (.a)) (.a)) (.a)) (.a)) (.a)) (.a)))) (.a))))) (.a))))))))) (.a))))))) (.a)))) (.a))))) (.a)))))) (.a))) (.a))) (.seq (.reg [0,0,1,7,15] [0,1,2,3,4] [.s [11] [],.s [12] [],.s [2] [2],.s [3] [3],z0] (.a)) (.a))))
def m18:((Int×Int×List Int×List Int)×Int)→Option ((List UInt8×List UInt8)×(List UInt8×List UInt8)×Int) :=
 fun x=>(m31 (x.1.1,x.1.2.1,x.1.2.2.1,x.1.2.2.2)).bind fun r=>(bif PE.notM (PE.notM r) then m36 (x.2,0,100) else some false).bind fun r_1=>bif PE.orM
 (PE.notM r) (PE.notM r_1) then some (([],[]),([],[]),250) else ((m25 (0,1)).bind fun r_2=>(loopM (fun (s:Int×List UInt8×List UInt8)=>bif ltM
 s.1 x.1.2.1 then (loopM (fun (s_1:Int×List UInt8×List UInt8)=>bif ltM s_1.1 x.1.1 then (((idxM x.1.2.2.1 (wrap .i64 (wrap .i64 (s.1 *
 wrap .i64 (x.1.1+1))+s_1.1))).bind fun r=>some r).bind fun (ov:Int)=>((idxM x.1.2.2.1 (wrap .i64 (wrap .i64 (s.1*wrap
 IntKind.i64 (x.1.1+1))+wrap .i64 (s_1.1+1)))).bind fun r=>some r).bind fun (ov_1:Int)=>((idxM x.1.2.2.1 (wrap .i64 (wrap IntKind.i64
 (wrap .i64 (s.1+1)*wrap .i64 (x.1.1+1))+wrap .i64 (s_1.1+1)))).bind fun r=>some r).bind fun (ov_2:Int)=>(sortI [ov,ov_1,
 ov_2]).bind fun r_3=>(chkM 0 (lenM r_3)).bind fun r_4=>(idxM r_3 0).bind fun r_5=>bif ltM x.2 r_5 then (m25 (1,2)).bind fun r_6=>(m49 ((s_1.2.1,
 s_1.2.2),r_6.1.1,r_6.1.2)).bind fun r=>some (r.1.1,r.1.2) else (chkM 1 (lenM r_3)).bind fun r_6=>(idxM r_3 1).bind fun r_7=>bif ltM x.2 r_7 then (m25
 (1,2)).bind fun r_8=>(m49 ((s_1.2.1,s_1.2.2),r_8.1.1,r_8.1.2)).bind fun r_9=>(chkM 0 (lenM r_3)).bind fun r_10=>(idxM r_3 0).bind fun r_11=>(chkM
 0 (lenM r_3)).bind fun r_12=>(idxM r_3 0).bind fun r_13=>(chkM 1 (lenM r_3)).bind fun r_14=>(idxM r_3 1).bind fun r_15=>(chkM 0 (lenM r_3)).bind fun
 r_16=>(idxM r_3 0).bind fun r_17=>(chkM 2 (lenM r_3)).bind fun r_18=>(idxM r_3 2).bind fun r_19=>(chkM 0 (lenM r_3)).bind fun r_20=>(idxM r_3
 0).bind fun r_21=>(m25 (wrap .i64 (wrap .i64 (negM (wrap .i64 (x.2-r_11)))*wrap .i64 (x.2-r_13)),wrap .i64 (wrap
 IntKind.i64 (2*wrap .i64 (r_15-r_17))*wrap .i64 (r_19-r_21)))).bind fun r_22=>(m49 ((r_9.1.1,r_9.1.2),r_22.1.1,r_22.1.2)).bind fun
 r=>some (r.1.1,r.1.2) else (chkM 2 (lenM r_3)).bind fun r_8=>(idxM r_3 2).bind fun r_9=>bif ltM x.2 r_9 then (chkM 2 (lenM r_3)).bind fun r_10=>(idxM
 r_3 2).bind fun r_11=>(chkM 2 (lenM r_3)).bind fun r_12=>(idxM r_3 2).bind fun r_13=>(chkM 2 (lenM r_3)).bind fun r_14=>(idxM r_3 2).bind fun r_15 =>
 (chkM 0 (lenM r_3)).bind fun r_16=>(idxM r_3 0).bind fun r_17=>(chkM 2 (lenM r_3)).bind fun r_18=>(idxM r_3 2).bind fun r_19=>(chkM 1 (lenM r_3)).bind
 fun r_20=>(idxM r_3 1).bind fun r_21=>(m25 (wrap .i64 (wrap .i64 (r_11-x.2)*wrap .i64 (r_13-x.2)),wrap .i64 (wrap
 IntKind.i64 (2*wrap .i64 (r_15-r_17))*wrap .i64 (r_19-r_21)))).bind fun r_22=>(m49 ((s_1.2.1,s_1.2.2),r_22.1.1,r_22.1.2)).bind fun
 r=>some (r.1.1,r.1.2) else some (s_1.2.1,s_1.2.2)).bind fun o=>(((idxM x.1.2.2.1 (wrap .i64 (wrap .i64 (s.1*wrap .i64 (x.1.1 +
 1))+s_1.1))).bind fun r=>some r).bind fun (ov:Int)=>((idxM x.1.2.2.1 (wrap .i64 (wrap .i64 (wrap .i64 (s.1+1)*wrap
 IntKind.i64 (x.1.1+1))+wrap .i64 (s_1.1+1)))).bind fun r=>some r).bind fun (ov_1:Int)=>((idxM x.1.2.2.1 (wrap .i64 (wrap IntKind.i64
 (wrap .i64 (s.1+1)*wrap .i64 (x.1.1+1))+s_1.1))).bind fun r=>some r).bind fun (ov_2:Int)=>(sortI [ov,ov_1,ov_2]).bind fun r_3 =>
 (chkM 0 (lenM r_3)).bind fun r_4=>(idxM r_3 0).bind fun r_5=>bif ltM x.2 r_5 then (m25 (1,2)).bind fun r_6=>(m49 ((o.1,o.2),r_6.1.1,r_6.1.2)).bind
 fun r=>some (r.1.1,r.1.2) else (chkM 1 (lenM r_3)).bind fun r_6=>(idxM r_3 1).bind fun r_7=>bif ltM x.2 r_7 then (m25 (1,2)).bind fun r_8=>(m49
 ((o.1,o.2),r_8.1.1,r_8.1.2)).bind fun r_9=>(chkM 0 (lenM r_3)).bind fun r_10=>(idxM r_3 0).bind fun r_11=>(chkM 0 (lenM r_3)).bind fun r_12=>(idxM
 r_3 0).bind fun r_13=>(chkM 1 (lenM r_3)).bind fun r_14=>(idxM r_3 1).bind fun r_15=>(chkM 0 (lenM r_3)).bind fun r_16=>(idxM r_3 0).bind fun r_17 =>
 (chkM 2 (lenM r_3)).bind fun r_18=>(idxM r_3 2).bind fun r_19=>(chkM 0 (lenM r_3)).bind fun r_20=>(idxM r_3 0).bind fun r_21=>(m25 (wrap IntKind.i64
 (wrap .i64 (negM (wrap .i64 (x.2-r_11)))*wrap .i64 (x.2-r_13)),wrap .i64 (wrap .i64 (2*wrap .i64 (r_15 -
 r_17))*wrap .i64 (r_19-r_21)))).bind fun r_22=>(m49 ((r_9.1.1,r_9.1.2),r_22.1.1,r_22.1.2)).bind fun r=>some (r.1.1,r.1.2) else (chkM 2
 (lenM r_3)).bind fun r_8=>(idxM r_3 2).bind fun r_9=>bif ltM x.2 r_9 then (chkM 2 (lenM r_3)).bind fun r_10=>(idxM r_3 2).bind fun r_11=>(chkM 2 (lenM
 r_3)).bind fun r_12=>(idxM r_3 2).bind fun r_13=>(chkM 2 (lenM r_3)).bind fun r_14=>(idxM r_3 2).bind fun r_15=>(chkM 0 (lenM r_3)).bind fun r_16 =>
 (idxM r_3 0).bind fun r_17=>(chkM 2 (lenM r_3)).bind fun r_18=>(idxM r_3 2).bind fun r_19=>(chkM 1 (lenM r_3)).bind fun r_20=>(idxM r_3 1).bind fun
 r_21=>(m25 (wrap .i64 (wrap .i64 (r_11-x.2)*wrap .i64 (r_13-x.2)),wrap .i64 (wrap .i64 (2*wrap .i64 (r_15
 - r_17))*wrap .i64 (r_19-r_21)))).bind fun r_22=>(m49 ((o.1,o.2),r_22.1.1,r_22.1.2)).bind fun r=>some (r.1.1,r.1.2) else some (o.1,
 o.2)).bind fun o=>some (Sum.inl (wrap .i64 (s_1.1+1),o.1,o.2)) else some (Sum.inr (s_1.2.1,s_1.2.2))) (0,s.2.1,s.2.2)).bind fun o=>some
 (Sum.inl (wrap .i64 (s.1+1),o.1,o.2)) else some (Sum.inr (s.2.1,s.2.2))) (0,r_2.1.1,r_2.1.2)).bind fun o=>some (o.1,o.2)).bind fun (ov:List
 UInt8×List UInt8)=>((m25 (0,1)).bind fun r_2=>(loopM (fun (s:Int×List UInt8×List UInt8)=>bif ltM s.1 x.1.2.1 then (loopM (fun (s_1:Int×List
 UInt8×List UInt8)=>bif ltM s_1.1 x.1.1 then (((idxM x.1.2.2.2 (wrap .i64 (wrap .i64 (s.1*wrap .i64 (x.1.1+1))+s_1.1))).bind fun
 r=>some r).bind fun (ov_1:Int)=>((idxM x.1.2.2.2 (wrap .i64 (wrap .i64 (s.1*wrap .i64 (x.1.1+1))+wrap .i64 (s_1.1 +
 1)))).bind fun r=>some r).bind fun (ov_2:Int)=>((idxM x.1.2.2.2 (wrap .i64 (wrap .i64 (wrap .i64 (s.1+1)*wrap IntKind.i64
 (x.1.1+1))+wrap .i64 (s_1.1+1)))).bind fun r=>some r).bind fun (ov_3:Int)=>(sortI [ov_1,ov_2,ov_3]).bind fun r_3=>(chkM 0 (lenM
 r_3)).bind fun r_4=>(idxM r_3 0).bind fun r_5=>bif ltM x.2 r_5 then (m25 (1,2)).bind fun r_6=>(m49 ((s_1.2.1,s_1.2.2),r_6.1.1,r_6.1.2)).bind fun r
 => some (r.1.1,r.1.2) else (chkM 1 (lenM r_3)).bind fun r_6=>(idxM r_3 1).bind fun r_7=>bif ltM x.2 r_7 then (m25 (1,2)).bind fun r_8=>(m49 ((s_1.2.1,
 s_1.2.2),r_8.1.1,r_8.1.2)).bind fun r_9=>(chkM 0 (lenM r_3)).bind fun r_10=>(idxM r_3 0).bind fun r_11=>(chkM 0 (lenM r_3)).bind fun r_12=>(idxM r_3
 0).bind fun r_13=>(chkM 1 (lenM r_3)).bind fun r_14=>(idxM r_3 1).bind fun r_15=>(chkM 0 (lenM r_3)).bind fun r_16=>(idxM r_3 0).bind fun r_17 =>
 (chkM 2 (lenM r_3)).bind fun r_18=>(idxM r_3 2).bind fun r_19=>(chkM 0 (lenM r_3)).bind fun r_20=>(idxM r_3 0).bind fun r_21=>(m25 (wrap IntKind.i64
 (wrap .i64 (negM (wrap .i64 (x.2-r_11)))*wrap .i64 (x.2-r_13)),wrap .i64 (wrap .i64 (2*wrap .i64 (r_15 -
 r_17))*wrap .i64 (r_19-r_21)))).bind fun r_22=>(m49 ((r_9.1.1,r_9.1.2),r_22.1.1,r_22.1.2)).bind fun r=>some (r.1.1,r.1.2) else (chkM 2
 (lenM r_3)).bind fun r_8=>(idxM r_3 2).bind fun r_9=>bif ltM x.2 r_9 then (chkM 2 (lenM r_3)).bind fun r_10=>(idxM r_3 2).bind fun r_11=>(chkM 2 (lenM
 r_3)).bind fun r_12=>(idxM r_3 2).bind fun r_13=>(chkM 2 (lenM r_3)).bind fun r_14=>(idxM r_3 2).bind fun r_15=>(chkM 0 (lenM r_3)).bind fun r_16 =>
 (idxM r_3 0).bind fun r_17=>(chkM 2 (lenM r_3)).bind fun r_18=>(idxM r_3 2).bind fun r_19=>(chkM 1 (lenM r_3)).bind fun r_20=>(idxM r_3 1).bind fun
 r_21=>(m25 (wrap .i64 (wrap .i64 (r_11-x.2)*wrap .i64 (r_13-x.2)),wrap .i64 (wrap .i64 (2*wrap .i64 (r_15
 - r_17))*wrap .i64 (r_19-r_21)))).bind fun r_22=>(m49 ((s_1.2.1,s_1.2.2),r_22.1.1,r_22.1.2)).bind fun r=>some (r.1.1,r.1.2) else some
 (s_1.2.1,s_1.2.2)).bind fun o=>(((idxM x.1.2.2.2 (wrap .i64 (wrap .i64 (s.1*wrap .i64 (x.1.1+1))+s_1.1))).bind fun r=>some
 r).bind fun (ov_1:Int)=>((idxM x.1.2.2.2 (wrap .i64 (wrap .i64 (wrap .i64 (s.1+1)*wrap .i64 (x.1.1+1))+wrap
 IntKind.i64 (s_1.1+1)))).bind fun r=>some r).bind fun (ov_2:Int)=>((idxM x.1.2.2.2 (wrap .i64 (wrap .i64 (wrap .i64 (s.1+1) *
 wrap .i64 (x.1.1+1))+s_1.1))).bind fun r=>some r).bind fun (ov_3:Int)=>(sortI [ov_1,ov_2,ov_3]).bind fun r_3=>(chkM 0 (lenM r_3)).bind
 fun r_4=>(idxM r_3 0).bind fun r_5=>bif ltM x.2 r_5 then (m25 (1,2)).bind fun r_6=>(m49 ((o.1,o.2),r_6.1.1,r_6.1.2)).bind fun r=>some (r.1.1,
 r.1.2) else (chkM 1 (lenM r_3)).bind fun r_6=>(idxM r_3 1).bind fun r_7=>bif ltM x.2 r_7 then (m25 (1,2)).bind fun r_8=>(m49 ((o.1,o.2),r_8.1.1,
 r_8.1.2)).bind fun r_9=>(chkM 0 (lenM r_3)).bind fun r_10=>(idxM r_3 0).bind fun r_11=>(chkM 0 (lenM r_3)).bind fun r_12=>(idxM r_3 0).bind fun r_13
 => (chkM 1 (lenM r_3)).bind fun r_14=>(idxM r_3 1).bind fun r_15=>(chkM 0 (lenM r_3)).bind fun r_16=>(idxM r_3 0).bind fun r_17=>(chkM 2 (lenM
 r_3)).bind fun r_18=>(idxM r_3 2).bind fun r_19=>(chkM 0 (lenM r_3)).bind fun r_20=>(idxM r_3 0).bind fun r_21=>(m25 (wrap .i64 (wrap
 IntKind.i64 (negM (wrap .i64 (x.2-r_11)))*wrap .i64 (x.2-r_13)),wrap .i64 (wrap .i64 (2*wrap .i64 (r_15-r_17)) *
 wrap .i64 (r_19-r_21)))).bind fun r_22=>(m49 ((r_9.1.1,r_9.1.2),r_22.1.1,r_22.1.2)).bind fun r=>some (r.1.1,r.1.2) else (chkM 2 (lenM
 r_3)).bind fun r_8=>(idxM r_3 2).bind fun r_9=>bif ltM x.2 r_9 then (chkM 2 (lenM r_3)).bind fun r_10=>(idxM r_3 2).bind fun r_11=>(chkM 2 (lenM
 r_3)).bind fun r_12=>(idxM r_3 2).bind fun r_13=>(chkM 2 (lenM r_3)).bind fun r_14=>(idxM r_3 2).bind fun r_15=>(chkM 0 (lenM r_3)).bind fun r_16 =>
 (idxM r_3 0).bind fun r_17=>(chkM 2 (lenM r_3)).bind fun r_18=>(idxM r_3 2).bind fun r_19=>(chkM 1 (lenM r_3)).bind fun r_20=>(idxM r_3 1).bind fun
 r_21=>(m25 (wrap .i64 (wrap .i64 (r_11-x.2)*wrap .i64 (r_13-x.2)),wrap .i64 (wrap .i64 (2*wrap .i64 (r_15
 - r_17))*wrap .i64 (r_19-r_21)))).bind fun r_22=>(m49 ((o.1,o.2),r_22.1.1,r_22.1.2)).bind fun r=>some (r.1.1,r.1.2) else some (o.1,
 o.2)).bind fun o=>some (Sum.inl (wrap .i64 (s_1.1+1),o.1,o.2)) else some (Sum.inr (s_1.2.1,s_1.2.2))) (0,s.2.1,s.2.2)).bind fun o=>some
 (Sum.inl (wrap .i64 (s.1+1),o.1,o.2)) else some (Sum.inr (s.2.1,s.2.2))) (0,r_2.1.1,r_2.1.2)).bind fun o=>some (o.1,o.2)).bind fun (ov_1 :
 List UInt8×List UInt8)=>some ((ov.1,ov.2),(ov_1.1,ov_1.2),0)
theorem c18:SpecOK Tryz.prog 18 ⟨as18,rs18,m18⟩ :=
 fc tabs17OK [] an18 Tryz.f18 fun x=>by kernel_rfl
def tabs18:Tabs:=Tabs.add tabs17 18 ⟨as18,rs18,m18⟩
theorem tabs18OK:TabOK Tryz.prog tabs18:=TabOK.add tabs17OK c18 Tryz.call18

/-! putlog/field.made -/
def as35:List Ty:=[(.pair tI (.pair tI (.pair tL tL)))]
def rs35:List Ty:=[(.pair tI (.pair tI (.pair tL tL))),tI]
def an35:Ann:=.a
def m35:(Int×Int×List Int×List Int)→Option ((Int×Int×List Int×List Int)×Int) :=
 fun x=>(m31 (x.1,x.2.1,x.2.2.1,x.2.2.2)).bind fun r=>bif PE.notM r then some ((0,0,[],[]),250) else some ((x.1,x.2.1,x.2.2.1,x.2.2.2),0)
theorem c35:SpecOK Tryz.prog 35 ⟨as35,rs35,m35⟩ :=
 fc tabs18OK [] an35 Tryz.f35 fun x=>by kernel_rfl
def tabs35:Tabs:=Tabs.add tabs18 35 ⟨as35,rs35,m35⟩
theorem tabs35OK:TabOK Tryz.prog tabs35:=TabOK.add tabs18OK c35 Tryz.call35

/-! putlog/field.Refine -/
def as11:List Ty:=[(.pair tI (.pair tI (.pair tL tL)))]
def rs11:List Ty:=[(.pair tI (.pair tI (.pair tL tL))),tI]
def an11:Ann:=.seq (.a) (.seq (.a) (.seq (.a) (.seq (.reg [] [] [.s [0] [],z0,.r,z0,z0,z0,z0,.s [2,6] [2],z0,.s [2,9] [2]] (.call [] [] (.seq (.a) (.seq (.reg [0,0,0,4,14,31,0,0,0,256,959,2047,4095,8191] (ra 0 14 ([])) [z0,.s [3] [],z0,.s [3] [],.k [4,5],.k [6],z0,.s [3] [],z0,.s [3] [],.k [7,8],.k [9],z0,z0] (.kp [] ⟨[(10,.r (.c (.f 92 [] [.p 4 0,.p 5 0])))],[],[],[.box [.d (.d tL)],.box [.d (.d tI),.d (.d tI),.d (.d tL),.d (.d tL)]]⟩ (.seq (.a) (.a)) (.kp [] ⟨[(11,.r (.c (.h 6)))],[],[],[.arr tI]⟩ (.seq (.a) (.seq (.a) (.seq (.seq (.a) (.block (.loop ⟨[(4,.r (.c (.h 6))),(10,.r (.c (.d (.d tI))))],(5::6::ra 11 30 ([])),[],[.arr tI]⟩ [(.exit 0,⟨[(4,.r (.c (.h 6)))],(5::6::ra 10 31 ([])),[],[.arr tI]⟩)] (.seq (.a) (.seq (.a) (.seq (.block (.seq (.a) (.seq (.a) (.block (.loop ⟨[(4,.r (.c (.h 7))),(16,.r (.c (.d (.d tI))))],(6::ra 17 23 ([])),[(6,.gone)],[.arr tI]⟩ [(.exit 2,⟨[(4,.r (.c (.h 7)))],(6::ra 16 24 ([])),[(6,.gone)],[.arr tI]⟩)] (.seq (.a) (.seq (.a) (.seq (.block (.seq (.a) (.reg [] [] [z0,z0,z0,z0,z0,z0,z0,.r,z0,z0,z0,z0,z0,z0,z0,z0,.r,z0,z0,.s [7] [10,7],z0] (.call [] [] (.seq (.a) (.a)) (.call [] [] (.seq (.a) (.a)) (.a)))))) (.a))))))))) (.a))))))) (.a)))) (.kp [] ⟨[(16,.r (.c (.f 92 [] [.p 7 0,.p 8 0])))],[],[],[.box [.d (.d tL)],.box [.d (.d tI),.d (.d tI),.d (.d tL),.d (.d tL)]]⟩ (.seq (.a) (.a)) (.kp [] ⟨[(17,.r (.c (.h 9)))],[],[],[.arr tI]⟩ (.seq (.a) (.seq (.a) (.seq (.seq (.a) (.block (.loop ⟨[(4,.r (.c (.h 9))),(10,.r (.c (.d (.d tI))))],(5::6::ra 11 30 ([])),[],[.arr tI]⟩ [(.exit 0,⟨[(4,.r (.c (.h 9)))],(5::6::ra 10 31 ([])),[],[.arr tI]⟩)] (.seq (.a) (.seq (.a) (.seq (.block (.seq (.a) (.seq (.a) (.block (.loop ⟨[(4,.r (.c (.h 10))),(16,.r (.c (.d (.d tI))))],(6::ra 17 23 ([])),[(9,.gone)],[.arr tI]⟩ [(.exit 2,⟨[(4,.r (.c (.h 10)))],(6::ra 16 24 ([])),[(9,.gone)],[.arr tI]⟩)] (.seq (.a) (.seq (.a) (.seq (.block (.seq (.a) (.reg [] [] [z0,z0,z0,z0,z0,z0,z0,.r,z0,z0,z0,z0,z0,z0,z0,z0,.r,z0,z0,.s [10] [13,10],z0] (.call [] [] (.seq (.a) (.a)) (.call [] [] (.seq (.a) (.a)) (.a)))))) (.a))))))))) (.a))))))) (.a)))) (.a)))))) (.a))) (.a))) (.a))))
def m11:(Int×Int×List Int×List Int)→Option ((Int×Int×List Int×List Int)×Int) :=
 fun x=>(m31 (x.1,x.2.1,x.2.2.1,x.2.2.2)).bind fun r=>bif PE.notM r then some ((0,0,[],[]),250) else ((loopM (fun (s:Int×List Int)=>bif ltM s.1
 (wrap .i64 (wrap .i64 (2*x.2.1)+1)) then (loopM (fun (s_1:Int×List Int)=>bif ltM s_1.1 (wrap .i64 (wrap .i64 (2*x.1) +
 1)) then (divM .i64 s_1.1 2).bind fun r_1=>(divM .i64 s.1 2).bind fun r_2=>(idxM x.2.2.1 (wrap .i64 (wrap .i64 (r_2*wrap
 IntKind.i64 (x.1+1))+r_1))).bind fun r_3=>(divM .i64 (wrap .i64 (s_1.1+1)) 2).bind fun r_4=>(divM .i64 (wrap .i64 (s.1 +
 1)) 2).bind fun r_5=>(idxM x.2.2.1 (wrap .i64 (wrap .i64 (r_5*wrap .i64 (x.1+1))+r_4))).bind fun r_6=>(appM (nat_lit 8) s_1.2
 [wrap .i64 (r_3+r_6)]).bind fun r=>some (Sum.inl (wrap .i64 (s_1.1+1),r)) else some (Sum.inr s_1.2)) (0,s.2)).bind fun o=>some
 (Sum.inl (wrap .i64 (s.1+1),o)) else some (Sum.inr s.2)) (0,[])).bind fun o=>some o).bind fun (ov:List Int)=>((loopM (fun (s:Int×List
 Int)=>bif ltM s.1 (wrap .i64 (wrap .i64 (2*x.2.1)+1)) then (loopM (fun (s_1:Int×List Int)=>bif ltM s_1.1 (wrap .i64 (wrap
 IntKind.i64 (2*x.1)+1)) then (divM .i64 s_1.1 2).bind fun r_1=>(divM .i64 s.1 2).bind fun r_2=>(idxM x.2.2.2 (wrap .i64 (wrap
 IntKind.i64 (r_2*wrap .i64 (x.1+1))+r_1))).bind fun r_3=>(divM .i64 (wrap .i64 (s_1.1+1)) 2).bind fun r_4=>(divM IntKind.i64
 (wrap .i64 (s.1+1)) 2).bind fun r_5=>(idxM x.2.2.2 (wrap .i64 (wrap .i64 (r_5*wrap .i64 (x.1+1))+r_4))).bind fun r_6 =>
 (appM (nat_lit 8) s_1.2 [wrap .i64 (r_3+r_6)]).bind fun r=>some (Sum.inl (wrap .i64 (s_1.1+1),r)) else some (Sum.inr s_1.2)) (0,
 s.2)).bind fun o=>some (Sum.inl (wrap .i64 (s.1+1),o)) else some (Sum.inr s.2)) (0,[])).bind fun o=>some o).bind fun (ov_1:List Int)=>(m35
 (wrap .i64 (2*x.1),wrap .i64 (2*x.2.1),ov,ov_1)).bind fun r=>some ((r.1.1,r.1.2.1,r.1.2.2.1,r.1.2.2.2),r.2)
theorem c11:SpecOK Tryz.prog 11 ⟨as11,rs11,m11⟩ :=
 fc tabs35OK [] an11 Tryz.f11 fun x=>by kernel_rfl
def tabs11:Tabs:=Tabs.add tabs35 11 ⟨as11,rs11,m11⟩
theorem tabs11OK:TabOK Tryz.prog tabs11:=TabOK.add tabs35OK c11 Tryz.call11

/-! putlog/field.Add -/
def as20:List Ty:=[(.pair tI (.pair tI (.pair tL tL))),(.pair tI (.pair tI (.pair tL tL)))]
def rs20:List Ty:=[(.pair tI (.pair tI (.pair tL tL))),tI]
def an20:Ann:=.seq (.a) (.seq (.a) (.seq (.reg [0,1,0,4,0,16,48,0,128,496,1023,0,4095] (ra 0 13 ([])) [z0,.s [0] [],z0,.s [0] [],z0,.s [0] [],.s [] [3],z0,.s [0] [],.s [] [4],z0,.s [] [5],.s [5,3,4] [5]] (.a)) (.seq (.seq (.a) (.block (.loop ⟨[(45,.r (.c (.d (.d tI))))],(7::ra 46 27 ([])),[(3,.arr tI),(4,.arr tI)],[]⟩ [(.exit 0,⟨[],(7::ra 45 28 ([])),[(3,.arr tI),(4,.arr tI)],[]⟩)] (.seq (.a) (.seq (.a) (.seq (.block (.seq (.a) (.seq (.reg [0,1,0,7,15,0,32,0,224,480,1023,2047,4095] (ra 0 13 ([])) (z0::.s [5] []::z0::.s [3] []::.s [3] []::z0::.s [1] []::za 4 (.s [3] []::.s [3] [3]::[])) (.a)) (.reg [0,1,0,7,15,0,32,0,224,480,1023,2047,4095] (ra 0 13 ([])) (z0::.s [5] []::z0::.s [4] []::.s [4] []::z0::.s [1] []::za 4 (.s [4] []::.s [4] [4]::[])) (.a))))) (.a))))))) (.a))))
def m20:((Int×Int×List Int×List Int)×Int×Int×List Int×List Int)→Option ((Int×Int×List Int×List Int)×Int) :=
 fun x=>(m31 (x.1.1,x.1.2.1,x.1.2.2.1,x.1.2.2.2)).bind fun r=>(bif PE.notM (PE.notM r) then m31 (x.2.1,x.2.2.1,x.2.2.2.1,x.2.2.2.2) else some
 false).bind fun r_1=>bif PE.orM (PE.orM (PE.orM (PE.notM r) (PE.notM r_1)) (PE.notM (eqM x.1.1 x.2.1))) (PE.notM (eqM x.1.2.1 x.2.2.1)) then some ((0,0,
 [],[]),250) else (mo54 x.1.2.2.1).bind fun r_2=>(mo54 x.1.2.2.2).bind fun r_3=>(loopM (fun (s:Int×List Int×List Int)=>bif ltM s.1 (lenM r_2)
 then (chkM s.1 (lenM s.2.1)).bind fun r_4=>(idxM s.2.1 s.1).bind fun r_5=>(idxM x.2.2.2.1 s.1).bind fun r_6=>(chkM s.1 (lenM s.2.1)).bind fun r_7 =>
 (setM s.2.1 s.1 fun (x:Int)=>some (wrap .i64 (r_5+r_6))).bind fun r_8=>(chkM s.1 (lenM s.2.2)).bind fun r_9=>(idxM s.2.2 s.1).bind fun r_10
 => (idxM x.2.2.2.2 s.1).bind fun r_11=>(chkM s.1 (lenM s.2.2)).bind fun r_12=>(setM s.2.2 s.1 fun (x:Int)=>some (wrap .i64 (r_10+r_11))).bind
 fun r=>some (Sum.inl (wrap .i64 (s.1+1),r_8,r)) else some (Sum.inr (s.2.1,s.2.2))) (0,r_2,r_3)).bind fun o=>(m35 (x.1.1,x.1.2.1,o.1,
 o.2)).bind fun r=>some ((r.1.1,r.1.2.1,r.1.2.2.1,r.1.2.2.2),r.2)
theorem c20:SpecOK Tryz.prog 20 ⟨as20,rs20,m20⟩ :=
 fc (TabOK.drop tabs11OK [54]) [] an20 Tryz.f20 fun x=>by kernel_rfl
def tabs20:Tabs:=Tabs.add tabs11 20 ⟨as20,rs20,m20⟩
theorem tabs20OK:TabOK Tryz.prog tabs20:=TabOK.add tabs11OK c20 Tryz.call20

/-! putlog/field.Scale -/
def as21:List Ty:=[(.pair tI (.pair tI (.pair tL tL))),tI]
def rs21:List Ty:=[(.pair tI (.pair tI (.pair tL tL))),tI]
def an21:Ann:=.seq (.a) (.seq (.a) (.seq (.reg [0,1,0,4,0,16,48,0,128,496,1023,0,4095] (ra 0 13 ([])) [z0,.s [0] [],z0,.s [0] [],z0,.s [0] [],.s [] [2],z0,.s [0] [],.s [] [3],z0,.s [] [4],.s [4,2,3] [4]] (.a)) (.seq (.seq (.a) (.block (.loop ⟨[(31,.r (.c (.d (.d tI))))],(7::ra 32 19 ([])),[(2,.arr tI),(3,.arr tI)],[]⟩ [(.exit 0,⟨[],(7::ra 31 20 ([])),[(2,.arr tI),(3,.arr tI)],[]⟩)] (.a)))) (.a))))
def m21:((Int×Int×List Int×List Int)×Int)→Option ((Int×Int×List Int×List Int)×Int) :=
 fun x=>(m31 (x.1.1,x.1.2.1,x.1.2.2.1,x.1.2.2.2)).bind fun r=>(bif PE.notM (PE.notM r) then m36 (x.2,0,100) else some false).bind fun r_1=>bif PE.orM
 (PE.notM r) (PE.notM r_1) then some ((0,0,[],[]),250) else (mo54 x.1.2.2.1).bind fun r_2=>(mo54 x.1.2.2.2).bind fun r_3=>(loopM (fun (s:Int×List
 Int×List Int)=>bif ltM s.1 (lenM r_2) then (chkM s.1 (lenM s.2.1)).bind fun r_4=>(idxM s.2.1 s.1).bind fun r_5=>(chkM s.1 (lenM s.2.1)).bind fun r_6
 => (setM s.2.1 s.1 fun (x_1:Int)=>some (wrap .i64 (r_5*x.2))).bind fun r_7=>(chkM s.1 (lenM s.2.2)).bind fun r_8=>(idxM s.2.2 s.1).bind fun
 r_9=>(chkM s.1 (lenM s.2.2)).bind fun r_10=>(setM s.2.2 s.1 fun (x_1:Int)=>some (wrap .i64 (r_9*x.2))).bind fun r=>some (Sum.inl (wrap
 IntKind.i64 (s.1+1),r_7,r)) else some (Sum.inr (s.2.1,s.2.2))) (0,r_2,r_3)).bind fun o=>(m35 (x.1.1,x.1.2.1,o.1,o.2)).bind fun r=>some ((r.1.1,
 r.1.2.1,r.1.2.2.1,r.1.2.2.2),r.2)
theorem c21:SpecOK Tryz.prog 21 ⟨as21,rs21,m21⟩ :=
 fc (TabOK.drop tabs20OK [54]) [] an21 Tryz.f21 fun x=>by kernel_rfl
def tabs21:Tabs:=Tabs.add tabs20 21 ⟨as21,rs21,m21⟩
theorem tabs21OK:TabOK Tryz.prog tabs21:=TabOK.add tabs20OK c21 Tryz.call21

/-! putlog/field.Changed -/
def as29:List Ty:=[(.pair tI (.pair tI (.pair tL tL))),(.pair tI (.pair tI (.pair tL tL)))]
def rs29:List Ty:=[tL,tI]
def an29:Ann:=.seq (.a) (.seq (.a) (.seq (.a) (.seq (.seq (.a) (.block (.loop ⟨[(38,.r (.c (.d (.d tI))))],(7::8::9::ra 39 54 ([])),[(2,.arr tI)],[]⟩ [(.exit 0,⟨[],(7::8::9::ra 38 55 ([])),[(2,.arr tI)],[]⟩)] (.seq (.a) (.seq (.a) (.seq (.join [(.norm,⟨[],(7::8::9::ra 40 52 ([])),[(2,.arr tI)],[]⟩)] (.block (.seq (.a) (.seq (.reg [0,1,0,7,15,0,32,0,224,480,1023,0,2048,0,14336,30720,0,65536,0,458752,983040,2095104,0,0,12584959,33554431] (ra 0 26 ([])) (z0::.s [0] []::za 4 (.s [0] []::za 5 (.s [1] []::za 4 (.s [1] []::za 4 (.s [] [3]::.s [] [4]::.s [3] [3]::.s [4] [4]::[]))))) (.a)) (.a))))) (.a))))))) (.a))))
def m29:((Int×Int×List Int×List Int)×Int×Int×List Int×List Int)→Option (List Int×Int) :=
 fun x=>(m31 (x.1.1,x.1.2.1,x.1.2.2.1,x.1.2.2.2)).bind fun r=>(bif PE.notM (PE.notM r) then m31 (x.2.1,x.2.2.1,x.2.2.2.1,x.2.2.2.2) else some
 false).bind fun r_1=>bif PE.orM (PE.orM (PE.orM (PE.notM r) (PE.notM r_1)) (PE.notM (eqM x.1.1 x.2.1))) (PE.notM (eqM x.1.2.1 x.2.2.1)) then some ([],250)
 else (mkM (lenM x.1.2.2.1) (lenM x.1.2.2.1) (nat_lit 8) 0).bind fun r_2=>(loopM (fun (s:Int×List Int)=>bif ltM s.1 (lenM r_2) then ((idxM x.1.2.2.1
 s.1).bind fun r_3=>(idxM x.1.2.2.2 s.1).bind fun r_4=>(idxM x.2.2.2.1 s.1).bind fun r_5=>(idxM x.2.2.2.2 s.1).bind fun r_6=>bif ltM (min r_4 r_6) (max
 r_3 r_5) then (chkM s.1 (lenM s.2)).bind fun r_7=>(setM s.2 s.1 fun (x:Int)=>some 2).bind fun r=>some r else bif PE.orM (PE.notM (PE.andM (eqM r_3
 r_5) (eqM r_4 r_6))) (PE.notM (eqM r_3 r_4)) then (chkM s.1 (lenM s.2)).bind fun r_7=>(setM s.2 s.1 fun (x:Int)=>some 1).bind fun r=>some r else some
 s.2).bind fun o=>some (Sum.inl (wrap .i64 (s.1+1),o)) else some (Sum.inr s.2)) (0,r_2)).bind fun o=>some (o,0)
theorem c29:SpecOK Tryz.prog 29 ⟨as29,rs29,m29⟩ :=
 fc tabs21OK [] an29 Tryz.f29 fun x=>by kernel_rfl
def tabs29:Tabs:=Tabs.add tabs21 29 ⟨as29,rs29,m29⟩
theorem tabs29OK:TabOK Tryz.prog tabs29:=TabOK.add tabs21OK c29 Tryz.call29

/-! putlog/putlogref25.Ints -/
def as30:List Ty:=[tL,tL]
def rs30:List Ty:=[.bool]
def an30:Ann:=.seq (.a) (.seq (.a) (.seq (.seq (.a) (.block (.loop ⟨[(5,.r (.c (.d (.d tI))))],(ra 11 15 ([])),[],[]⟩ [(.exit 0,⟨[],(5::ra 11 15 ([])),[],[]⟩),(.ret,⟨[(4,.r (.c (.d (.d .bool))))],(5::ra 11 15 ([])),[],[]⟩)] (.seq (.a) (.seq (.block (.seq (.reg [0,0,3,7,0,0,48,112,255] (ra 0 9 ([])) (za 9 ([])) (.a)) (.a))) (.a)))))) (.a)))
def m30:(List Int×List Int)→Option (Bool) :=
 fun x=>bif PE.notM (eqM (lenM x.1) (lenM x.2)) then some false else (loopM (fun (s:Int)=>bif ltM s (lenM x.1) then (idxM x.1 s).bind fun r=>(idxM x.2
 s).bind fun r_1=>bif PE.notM (eqM r r_1) then some (Sum.inr (Sum.inr false)) else some (Sum.inl (wrap .i64 (s+1))) else some (Sum.inr (Sum.inl
 ()))) 0).bind fun o=>Sum.elim (fun (t:Unit)=>some true) (fun (t:Bool)=>some t) o
theorem c30:SpecOK Tryz.prog 30 ⟨as30,rs30,m30⟩ :=
 fc tabs29OK [] an30 Tryz.f30 fun x=>by kernel_rfl
def tabs30:Tabs:=Tabs.add tabs29 30 ⟨as30,rs30,m30⟩
theorem tabs30OK:TabOK Tryz.prog tabs30:=TabOK.add tabs29OK c30 Tryz.call30

/-! putlog/putloglaw25.sane -/
def as9:List Ty:=[]
def rs9:List Ty:=[.bool]
def an9:Ann:=.seq (.a) (.seq (.a) (.seq (.a) (.seq (.a) (.seq (.a) (.seq (.a) (.seq (.a) (.seq (.a) (.seq (.reg [0,0,2,6,14,31,63,127,127,127,0,0,3327,7679,16383] (ra 0 15 ([])) (.s [0] []::za 9 (.s [] [2]::.s [] [3]::.s [2] [2]::.s [3] [3]::z0::[])) (.a)) (.seq (.reg [0,0,2,6,14,31,63,127,127,127,0,0,3327,7679,16383] (ra 0 15 ([])) (.s [0] []::za 9 (.s [] [4]::.s [] [5]::.s [4] [4]::.s [5] [5]::z0::[])) (.a)) (.a))))))))))
def m9:Unit→Option (Bool) :=
 fun x=>(m13 ((1,1,[0,6,12,6],[0,6,12,6]),1,1,2)).bind fun r=>(m13 ((1,1,[0,6,12,6],[0,6,12,6]),1,3,4)).bind fun r_1=>(m13 ((1,1,
 [0,6,12,6],[0,6,12,6]),3,0,2)).bind fun r_2=>(m14 (1,1,[0,6,12,6],[0,6,12,6])).bind fun r_3=>(m16 (0,0)).bind fun r_4=>(m16 (1,
 0)).bind fun r_5=>(m16 (0,1)).bind fun r_6=>(m17 ((1,1,[0,6,12,6],[0,6,12,6]),[(r_4.1,r_4.2),(r_5.1,r_5.2),(r_6.1,r_6.2)])).bind fun r_7
 => (m16 (0,0)).bind fun r_8=>(m16 (2,0)).bind fun r_9=>(m16 (0,1)).bind fun r_10=>(m17 ((1,1,[0,6,12,6],[0,6,12,6]),[(r_8.1,r_8.2),
 (r_9.1,r_9.2),(r_10.1,r_10.2)])).bind fun r_11=>(m18 ((1,1,[0,6,12,6],[0,6,12,6]),3)).bind fun r_12=>(m18 ((1,1,[0,6,12,6],[0,6,12,
 6]),11)).bind fun r_13=>(m11 (1,1,[0,6,12,6],[0,6,12,6])).bind fun r_14=>(m20 ((1,1,[0,6,12,6],[0,6,12,6]),1,1,[0,6,12,6],[0,6,
 12,6])).bind fun r_15=>(m21 ((1,1,[0,6,12,6],[0,6,12,6]),3)).bind fun r_16=>(m21 ((1,1,[0,6,12,6],[0,6,12,6]),9)).bind fun r_17 =>
 (m29 ((1,1,[0,6,12,6],[0,6,12,6]),1,1,[0,6,12,6],[0,7,12,6])).bind fun r_18=>bif PE.orM (PE.orM (PE.orM (PE.orM (PE.orM (PE.orM (PE.orM
 (PE.orM (PE.orM (PE.orM (PE.orM (PE.notM (eqM r.2.2 0)) (PE.notM (eqM r_1.2.2 0))) (PE.notM (eqM r_2.2.2 250))) (PE.notM (eqM r_7.2.2 0))) (PE.notM (eqM
 r_11.2.2 250))) (PE.notM (eqM r_12.2.2 0))) (PE.notM (eqM r_13.2.2 0))) (PE.notM (eqM r_14.2 0))) (PE.notM (eqM r_15.2 0))) (PE.notM (eqM r_16.2 0))) (PE.notM
 (eqM r_17.2 250))) (PE.notM (eqM r_18.2 0)) then some false else (m30 (r_14.1.2.2.1,[0,6,12,12,6,12,24,18,12])).bind fun r_19=>(bif r_19 then m30
 (r_14.1.2.2.2,r_14.1.2.2.1) else some false).bind fun r_20=>(bif PE.andM (PE.andM (PE.andM r_19 r_20) (eqM r_14.1.1 2)) (eqM r_14.1.2.1 2) then m30
 (r_15.1.2.2.2,[0,12,24,12]) else some false).bind fun r_21=>(bif PE.andM (PE.andM (PE.andM (PE.andM r_19 r_20) (eqM r_14.1.1 2)) (eqM r_14.1.2.1 2))
 r_21 then m30 (r_16.1.2.2.1,[0,18,36,18]) else some false).bind fun r_22=>(bif PE.andM (PE.andM (PE.andM (PE.andM (PE.andM (PE.andM (PE.andM (eqM r.1 6)
 (eqM r.2.1 6)) (eqM r_1.1 30)) (eqM r_1.2.1 30)) (eqM r_3.1 30)) (eqM r_3.2 30)) (PE.andM (PE.andM (PE.andM (PE.andM (PE.andM (eqsM r_7.1.1 [(50:UInt8)])
 (eqsM r_7.1.2 [(49:UInt8)])) (PE.andM (eqsM r_7.2.1.1 r_7.1.1) (eqsM r_7.2.1.2 r_7.1.2))) (PE.andM (eqsM r_12.1.1 [(49:UInt8),(51:UInt8)]) (eqsM
 r_12.1.2 [(49:UInt8),(54:UInt8)]))) (PE.andM (eqsM r_13.1.1 [(49:UInt8)]) (eqsM r_13.1.2 [(49:UInt8),(52:UInt8),(52:UInt8)]))) (PE.andM (eqsM
 r_13.2.1.1 r_13.1.1) (eqsM r_13.2.1.2 r_13.1.2)))) (PE.andM (PE.andM (PE.andM (PE.andM (PE.andM r_19 r_20) (eqM r_14.1.1 2)) (eqM r_14.1.2.1 2)) r_21) r_22)
 then m30 (r_18.1,[0,1,0,0]) else some false).bind fun r_23=>(bif PE.andM (PE.andM (PE.andM (PE.andM (PE.andM (PE.andM (PE.andM (PE.andM (eqM r.1 6) (eqM
 r.2.1 6)) (eqM r_1.1 30)) (eqM r_1.2.1 30)) (eqM r_3.1 30)) (eqM r_3.2 30)) (PE.andM (PE.andM (PE.andM (PE.andM (PE.andM (eqsM r_7.1.1 [(50:UInt8)]) (eqsM
 r_7.1.2 [(49:UInt8)])) (PE.andM (eqsM r_7.2.1.1 r_7.1.1) (eqsM r_7.2.1.2 r_7.1.2))) (PE.andM (eqsM r_12.1.1 [(49:UInt8),(51:UInt8)]) (eqsM r_12.1.2
 [(49:UInt8),(54:UInt8)]))) (PE.andM (eqsM r_13.1.1 [(49:UInt8)]) (eqsM r_13.1.2 [(49:UInt8),(52:UInt8),(52:UInt8)]))) (PE.andM (eqsM r_13.2.1.1
 r_13.1.1) (eqsM r_13.2.1.2 r_13.1.2)))) (PE.andM (PE.andM (PE.andM (PE.andM (PE.andM r_19 r_20) (eqM r_14.1.1 2)) (eqM r_14.1.2.1 2)) r_21) r_22)) r_23 then
 m31 (1,1,[0,6,12,6],[0,6,12,6]) else some false).bind fun r_24=>(bif PE.andM (PE.andM (PE.andM (PE.andM (PE.andM (PE.andM (PE.andM (PE.andM
 (PE.andM (eqM r.1 6) (eqM r.2.1 6)) (eqM r_1.1 30)) (eqM r_1.2.1 30)) (eqM r_3.1 30)) (eqM r_3.2 30)) (PE.andM (PE.andM (PE.andM (PE.andM (PE.andM (eqsM
 r_7.1.1 [(50:UInt8)]) (eqsM r_7.1.2 [(49:UInt8)])) (PE.andM (eqsM r_7.2.1.1 r_7.1.1) (eqsM r_7.2.1.2 r_7.1.2))) (PE.andM (eqsM r_12.1.1 [(49:UInt8),(51
 : UInt8)]) (eqsM r_12.1.2 [(49:UInt8),(54:UInt8)]))) (PE.andM (eqsM r_13.1.1 [(49:UInt8)]) (eqsM r_13.1.2 [(49:UInt8),(52:UInt8),(52:UInt8)])))
 (PE.andM (eqsM r_13.2.1.1 r_13.1.1) (eqsM r_13.2.1.2 r_13.1.2)))) (PE.andM (PE.andM (PE.andM (PE.andM (PE.andM r_19 r_20) (eqM r_14.1.1 2)) (eqM r_14.1.2.1
 2)) r_21) r_22)) r_23) r_24 then m31 (0,0,[],[]) else some false).bind fun r_25=>some (PE.andM (PE.andM (PE.andM (PE.andM (PE.andM (PE.andM (PE.andM
 (PE.andM (PE.andM (PE.andM (eqM r.1 6) (eqM r.2.1 6)) (eqM r_1.1 30)) (eqM r_1.2.1 30)) (eqM r_3.1 30)) (eqM r_3.2 30)) (PE.andM (PE.andM (PE.andM (PE.andM
 (PE.andM (eqsM r_7.1.1 [(50:UInt8)]) (eqsM r_7.1.2 [(49:UInt8)])) (PE.andM (eqsM r_7.2.1.1 r_7.1.1) (eqsM r_7.2.1.2 r_7.1.2))) (PE.andM (eqsM r_12.1.1
 [(49:UInt8),(51:UInt8)]) (eqsM r_12.1.2 [(49:UInt8),(54:UInt8)]))) (PE.andM (eqsM r_13.1.1 [(49:UInt8)]) (eqsM r_13.1.2 [(49:UInt8),(52 :
 UInt8),(52:UInt8)]))) (PE.andM (eqsM r_13.2.1.1 r_13.1.1) (eqsM r_13.2.1.2 r_13.1.2)))) (PE.andM (PE.andM (PE.andM (PE.andM (PE.andM r_19 r_20) (eqM
 r_14.1.1 2)) (eqM r_14.1.2.1 2)) r_21) r_22)) r_23) r_24) (PE.notM r_25))
theorem c9:SpecOK Tryz.prog 9 ⟨as9,rs9,m9⟩ :=
 fc tabs30OK [] an9 Tryz.f9 fun x=>by kernel_rfl
def tabs9:Tabs:=Tabs.add tabs30 9 ⟨as9,rs9,m9⟩
theorem tabs9OK:TabOK Tryz.prog tabs9:=TabOK.add tabs30OK c9 Tryz.call9

/-! putlog/putlogref25.pick -/
def as32:List Ty:=[tI,tI]
def rs32:List Ty:=[tI]
def an32:Ann:=.seq (.a) (.seq (.join [(.norm,⟨[(0,.r (.c (.d (.d tI))))],[5,6,7,8,9],[],[]⟩)] (.a)) (.a))
def m32:(Int×Int)→Option (Int) :=
 fun x=>(bif ltM x.1 0 then some (wrap .i64 (negM (wrap .i64 (x.1+1)))) else some x.1).bind fun o=>(remM o x.2).bind fun r=>some r
theorem c32:SpecOK Tryz.prog 32 ⟨as32,rs32,m32⟩ :=
 fc tabs9OK [] an32 Tryz.f32 fun x=>by kernel_rfl
def tabs32:Tabs:=Tabs.add tabs9 32 ⟨as32,rs32,m32⟩
theorem tabs32OK:TabOK Tryz.prog tabs32:=TabOK.add tabs9OK c32 Tryz.call32

/-! putlog/putlogref25.Made -/
def as10:List Ty:=[tI,tI,tI,tI,tQ]
def rs10:List Ty:=[(.pair tI (.pair tI (.pair tL tL)))]
def an10:Ann:=.seq (.a) (.seq (.a) (.seq (.seq (.a) (.block (.loop ⟨[(12,.r (.c (.d (.d tI))))],(13::14::ra 24 51 ([])),[(1,.box [.d (.d tI),.d (.d tI),.h 2,.h 3])],[.arr tI,.arr tI]⟩ [(.exit 0,⟨[],(12::13::14::ra 24 51 ([])),[(1,.box [.d (.d tI),.d (.d tI),.h 2,.h 3])],[.arr tI,.arr tI]⟩)] (.seq (.a) (.seq (.block (.seq (.a) (.seq (.join [(.norm,⟨[],(ra 42 10 ([])),[(4,.box [.d (.d tI),.d (.d tI)])],[]⟩)] (.a)) (.seq (.a) (.seq (.a) (.reg [0,1,0,0,8,24,60,0,252,508,1023,2047,4095] (ra 0 13 ([])) (z0::.s [1] []::z0::z0::.s [4] []::za 5 (.s [3] [6,3]::z0::.s [1,6] [1]::[])) (.a))))))) (.a)))))) (.a)))
def m10:(Int×Int×Int×Int×List (Int×Int))→Option (Int×Int×List Int×List Int) :=
 fun x=>(m32 (x.1,x.2.2.1)).bind fun r=>(m32 (x.2.1,x.2.2.1)).bind fun r_1=>(loopM (fun (s:Int×Int×Int×List Int×List Int)=>bif ltM s.1 (wrap
 IntKind.i64 (wrap .i64 (s.2.1+1)*wrap .i64 (s.2.2.1+1))) then (bif ltM 0 (lenM x.2.2.2.2) then (remM s.1 (lenM x.2.2.2.2)).bind fun r_2 =>
 (idxM x.2.2.2.2 r_2).bind fun r=>some (r.1,r.2) else some (wrap .i64 (wrap .i64 (7*s.1)+wrap .i64 (s.1*s.1)),0)).bind fun o =>
 (m32 (o.1,wrap .i64 (x.2.2.2.1+1))).bind fun r_2=>(appM (nat_lit 8) s.2.2.2.1 [r_2]).bind fun r_3=>(m32 (o.2,30)).bind fun r_4=>(appM
 (nat_lit 8) s.2.2.2.2 [min (wrap .i64 (r_2+r_4)) x.2.2.2.1]).bind fun r=>some (Sum.inl (wrap .i64 (s.1+1),s.2.1,s.2.2.1,r_3,r)) else
 some (Sum.inr (s.2.1,s.2.2.1,s.2.2.2.1,s.2.2.2.2))) (0,wrap .i64 (1+r),wrap .i64 (1+r_1),[],[])).bind fun o=>some (o.1,o.2.1,
 o.2.2.1,o.2.2.2)
theorem c10:SpecOK Tryz.prog 10 ⟨as10,rs10,m10⟩ :=
 fc tabs32OK [] an10 Tryz.f10 fun x=>by kernel_rfl
def tabs10:Tabs:=Tabs.add tabs32 10 ⟨as10,rs10,m10⟩
theorem tabs10OK:TabOK Tryz.prog tabs10:=TabOK.add tabs32OK c10 Tryz.call10

/-! putlog/putloglaw25.pick -/
def as12:List Ty:=[tI,tI]
def rs12:List Ty:=[tI]
def an12:Ann:=.seq (.a) (.seq (.join [(.norm,⟨[(0,.r (.c (.d (.d tI))))],[5,6,7,8,9],[],[]⟩)] (.a)) (.a))
def m12:(Int×Int)→Option (Int) :=
 fun x=>(bif ltM x.1 0 then some (wrap .i64 (negM (wrap .i64 (x.1+1)))) else some x.1).bind fun o=>(remM o x.2).bind fun r=>some r
theorem c12:SpecOK Tryz.prog 12 ⟨as12,rs12,m12⟩ :=
 fc tabs10OK [] an12 Tryz.f12 fun x=>by kernel_rfl
def tabs12:Tabs:=Tabs.add tabs10 12 ⟨as12,rs12,m12⟩
theorem tabs12OK:TabOK Tryz.prog tabs12:=TabOK.add tabs10OK c12 Tryz.call12
end
end Go.Proofs.YtechphmljdgoaaaGreatDoor
namespace Go.Proofs.YtechphmljdgoaaaGreatDoor
open Go Go.Abs Go.PE Go.Proofs
open Go.IntKind (wrap)
set_option maxRecDepth 100000
noncomputable section

/-! putlog/putlogref07.Turn -/
def as68:List Ty:=[tP,tP,tP]
def rs68:List Ty:=[tI]
def an68:Ann:=.a
def m68:((Int×Int)×(Int×Int)×Int×Int)→Option (Int) :=
 fun x=>some (wrap .i64 (wrap .i64 (wrap .i64 (x.2.1.1-x.1.1)*wrap .i64 (x.2.2.2-x.1.2))-wrap .i64 (wrap IntKind.i64
 (x.2.1.2-x.1.2)*wrap .i64 (x.2.2.1-x.1.1))))
theorem c68:SpecOK Tryz.prog 68 ⟨as68,rs68,m68⟩ :=
 fc tabs12OK [] an68 Tryz.f68 fun x=>by kernel_rfl
def tabs68:Tabs:=Tabs.add tabs12 68 ⟨as68,rs68,m68⟩
theorem tabs68OK:TabOK Tryz.prog tabs68:=TabOK.add tabs12OK c68 Tryz.call68

/-! putlog/putlogref07.far -/
def as69:List Ty:=[tP,tP]
def rs69:List Ty:=[tI]
def an69:Ann:=.a
def m69:((Int×Int)×Int×Int)→Option (Int) :=
 fun x=>some (wrap .i64 (wrap .i64 (wrap .i64 (x.1.1-x.2.1)*wrap .i64 (x.1.1-x.2.1))+wrap .i64 (wrap IntKind.i64
 (x.1.2-x.2.2)*wrap .i64 (x.1.2-x.2.2))))
theorem c69:SpecOK Tryz.prog 69 ⟨as69,rs69,m69⟩ :=
 fc tabs68OK [] an69 Tryz.f69 fun x=>by kernel_rfl
def tabs69:Tabs:=Tabs.add tabs68 69 ⟨as69,rs69,m69⟩
theorem tabs69OK:TabOK Tryz.prog tabs69:=TabOK.add tabs68OK c69 Tryz.call69

/-! putlog/putlogref07.Hull -/
def as41:List Ty:=[tQ]
def rs41:List Ty:=[tQ]
def an41:Ann:=.seq (.a) (.seq (.a) (.seq (.seq (.a) (.block (.loop ⟨[(4,.r (.c (.d (.d tI))))],(ra 13 38 ([])),[(0,.box [.d (.d tI),.d (.d tI)])],[]⟩ [(.exit 0,⟨[],(4::ra 13 38 ([])),[(0,.box [.d (.d tI),.d (.d tI)])],[]⟩)] (.seq (.a) (.seq (.join [(.norm,⟨[],(ra 19 32 ([])),[(0,.box [.d (.d tI),.d (.d tI)])],[]⟩)] (.block (.seq (.reg [0,0,3,7,15,0,32,127,255,511,511,2047,4095,8191,511,16895,65535,131071,262143,262143,1048575,2097151,4194303,262143,8650751,33554431,67108863,134217727] (ra 0 28 ([])) (za 6 (.s [0] []::za 8 (.s [0] []::za 8 (.s [0] []::za 3 ([]))))) (.a)) (.a)))) (.a)))))) (.seq (.a) (.seq (.a) (.block (.loop ⟨[(5,.r (.c (.h 3))),(6,.r (.c (.p 4 0)))],(7::8::9::ra 54 55 (ra 110 6 ([]))),[(1,.gone),(2,.gone)],[.arr tP,.box [.d (.d tI),.d (.d tI)]]⟩ [(.ret,⟨[(2,.r (.c (.h 3)))],(5::6::7::8::9::ra 54 62 ([])),[(1,.gone),(2,.gone)],[.arr tP]⟩)] (.seq (.block (.seq (.a) (.seq (.seq (.a) (.block (.loop ⟨[(8,.r (.c (.d (.d tI))))],(9::ra 55 46 ([])),[(5,.box [.d (.d tI),.d (.d tI)])],[]⟩ [(.exit 4,⟨[],(8::9::ra 55 46 ([])),[(5,.box [.d (.d tI),.d (.d tI)])],[]⟩)] (.seq (.a) (.seq (.join [(.norm,⟨[],(9::ra 61 40 ([])),[(5,.box [.d (.d tI),.d (.d tI)])],[]⟩)] (.block (.seq (.seq (.reg [0,0,3,7,0,31] (ra 0 6 ([])) (za 4 (.s [4] []::z0::[])) (.a)) (.a)) (.seq (.reg [0,0,0,0,12,28,63,127] (ra 0 8 ([])) (.s [4] []::.s [5] []::za 6 ([])) (.a)) (.seq (.reg [0,0,3,7,15,31,63,127,255,511,1023,2047,2047,2047,14335,30719,65535,2047,2047,524287,1048575,2097151,4194303] (ra 0 23 ([])) (.s [5] []::.s [4] []::za 9 (.s [4] []::za 5 (.s [4] []::.s [5] []::za 4 ([])))) (.a)) (.a)))))) (.a)))))) (.a)))) (.a))))))))
def m41:(List (Int×Int))→Option (List (Int×Int)) :=
 fun x=>(idxM x 0).bind fun r=>(loopM (fun (s:Int×Int×Int)=>bif ltM s.1 (lenM x) then ((idxM x s.1).bind fun r_1=>(bif PE.notM (ltM r_1.2 s.2.2)
 then idxM x s.1 else some (0,0)).bind fun r_2=>(bif PE.andM (PE.notM (ltM r_1.2 s.2.2)) (eqM r_2.2 s.2.2) then idxM x s.1 else some (0,0)).bind fun r_3 =>
 bif PE.orM (ltM r_1.2 s.2.2) (PE.andM (eqM r_2.2 s.2.2) (ltM r_3.1 s.2.1)) then (idxM x s.1).bind fun r=>some (r.1,r.2) else some (s.2.1,s.2.2)).bind fun
 o=>some (Sum.inl (wrap .i64 (s.1+1),o.1,o.2)) else some (Sum.inr (s.2.1,s.2.2))) (0,r.1,r.2)).bind fun o=>(loopM (fun (s:List (Int×Int)
 × Int×Int)=>(loopM (fun (s_1:Int×Int×Int)=>bif ltM s_1.1 (lenM x) then ((idxM x s_1.1).bind fun r_1=>bif PE.andM (eqM r_1.1 s.2.1) (eqM r_1.2
 s.2.2) then some (s_1.2.1,s_1.2.2) else (idxM x s_1.1).bind fun r_2=>(m68 ((s.2.1,s.2.2),(s_1.2.1,s_1.2.2),r_2.1,r_2.2)).bind fun r_3=>(bif PE.andM
 (PE.notM (PE.orM (PE.andM (eqM s_1.2.1 s.2.1) (eqM s_1.2.2 s.2.2)) (ltM r_3 0))) (eqM r_3 0) then idxM x s_1.1 else some (0,0)).bind fun r_4=>(bif PE.andM
 (PE.notM (PE.orM (PE.andM (eqM s_1.2.1 s.2.1) (eqM s_1.2.2 s.2.2)) (ltM r_3 0))) (eqM r_3 0) then m69 ((s.2.1,s.2.2),r_4.1,r_4.2) else some 0).bind fun r_5
 => (bif PE.andM (PE.notM (PE.orM (PE.andM (eqM s_1.2.1 s.2.1) (eqM s_1.2.2 s.2.2)) (ltM r_3 0))) (eqM r_3 0) then m69 ((s.2.1,s.2.2),s_1.2.1,s_1.2.2) else
 some 0).bind fun r_6=>bif PE.orM (PE.orM (PE.andM (eqM s_1.2.1 s.2.1) (eqM s_1.2.2 s.2.2)) (ltM r_3 0)) (PE.andM (eqM r_3 0) (ltM r_6 r_5)) then (idxM x
 s_1.1).bind fun r=>some (r.1,r.2) else some (s_1.2.1,s_1.2.2)).bind fun o=>some (Sum.inl (wrap .i64 (s_1.1+1),o.1,o.2)) else some (Sum.inr
 (s_1.2.1,s_1.2.2))) (0,s.2.1,s.2.2)).bind fun o_1=>bif PE.orM (PE.andM (eqM o_1.1 s.2.1) (eqM o_1.2 s.2.2)) (PE.andM (eqM o_1.1 o.1) (eqM o_1.2 o.2))
 then some (Sum.inr s.1) else (appM (nat_lit 16) s.1 [(o_1.1,o_1.2)]).bind fun r=>some (Sum.inl (r,o_1.1,o_1.2))) ([(o.1,o.2)],o.1,o.2)).bind fun o =>
 some o
theorem c41:SpecOK Tryz.prog 41 ⟨as41,rs41,m41⟩ :=
 fc tabs69OK [52,112] an41 Tryz.f41 fun x=>by kernel_rfl
def tabs41:Tabs:=Tabs.add tabs69 41 ⟨as41,rs41,m41⟩
theorem tabs41OK:TabOK Tryz.prog tabs41:=TabOK.add tabs69OK c41 Tryz.call41

/-! putlog/putlogref25.Part -/
def as15:List Ty:=[(.pair tI (.pair tI (.pair tL tL))),tQ]
def rs15:List Ty:=[tQ]
def an15:Ann:=.seq (.a) (.seq (.a) (.seq (.a) (.seq (.seq (.a) (.block (.loop ⟨[(6,.r (.c (.h 1))),(7,.r (.c (.d (.d tI))))],(ra 22 32 ([])),[],[.arr tP]⟩ [(.exit 0,⟨[(6,.r (.c (.h 1)))],(7::ra 22 32 ([])),[],[.arr tP]⟩)] (.seq (.a) (.seq (.block (.reg [0,0,0,6,14,30,0,64,192,510,0,0,3072,7168,15360,0,32768,98304,262142,524286,1048574,2097151,4194303] (ra 0 23 ([])) (za 7 (.s [0] []::za 8 (.s [0] []::za 4 (.s [1] [2,1]::z0::[])))) (.a))) (.a)))))) (.a))))
def m15:((Int×Int×List Int×List Int)×List (Int×Int))→Option (List (Int×Int)) :=
 fun x=>(loopM (fun (s:Int×List (Int×Int))=>bif PE.andM (ltM s.1 (lenM x.2)) (ltM s.1 8) then (idxM x.2 s.1).bind fun r=>(m32 (r.1,wrap IntKind.i64
 (x.1.1+1))).bind fun r_1=>(idxM x.2 s.1).bind fun r_2=>(m32 (r_2.2,wrap .i64 (x.1.2.1+1))).bind fun r_3=>(appM (nat_lit 16) s.2 [(r_1,
 r_3)]).bind fun r=>some (Sum.inl (wrap .i64 (s.1+1),r)) else some (Sum.inr s.2)) (0,[])).bind fun o=>bif eqM (lenM o) 0 then some [(0,0),
 (x.1.1,0),(x.1.1,x.1.2.1),(0,x.1.2.1)] else (m41 o).bind fun r=>bif leM 3 (lenM r) then some r else some [(0,0),(x.1.1,0),(x.1.1,x.1.2.1),(0,
 x.1.2.1)]
theorem c15:SpecOK Tryz.prog 15 ⟨as15,rs15,m15⟩ :=
 fc tabs41OK [] an15 Tryz.f15 fun x=>by kernel_rfl
def tabs15:Tabs:=Tabs.add tabs41 15 ⟨as15,rs15,m15⟩
theorem tabs15OK:TabOK Tryz.prog tabs15:=TabOK.add tabs41OK c15 Tryz.call15

/-! putlog/putlogref25.Between -/
def as23:List Ty:=[(.pair tI (.pair tI (.pair tL tL))),tL]
def rs23:List Ty:=[(.pair tI (.pair tI (.pair tL tL)))]
def an23:Ann:=.seq (.a) (.seq (.a) (.seq (.seq (.a) (.block (.loop ⟨[(6,.r (.c (.d (.d tI))))],(7::8::ra 14 50 ([])),[(2,.box [.d (.d tI),.d (.d tI),.h 3,.h 4])],[.arr tI,.arr tI]⟩ [(.exit 0,⟨[],(6::7::8::ra 14 50 ([])),[(2,.box [.d (.d tI),.d (.d tI),.h 3,.h 4])],[.arr tI,.arr tI]⟩)] (.seq (.a) (.seq (.block (.seq (.a) (.seq (.join [(.norm,⟨[(7,.r (.c (.d (.d tI))))],(ra 22 10 ([])),[],[]⟩)] (.a)) (.seq (.reg [0,1,0,7,15,0,0,64,0,448,960,0,2048,0,14336,30720,65472,131008,262112,524287,1048575] (ra 0 21 ([])) (z0::.s [0] []::za 5 (.s [0] []::za 4 (.s [0] []::za 8 ([])))) (.a)) (.a))))) (.a)))))) (.a)))
def m23:((Int×Int×List Int×List Int)×List Int)→Option (Int×Int×List Int×List Int) :=
 fun x=>(loopM (fun (s:Int×Int×Int×List Int×List Int)=>bif ltM s.1 (lenM x.1.2.2.1) then (bif ltM 0 (lenM x.2) then (remM s.1 (lenM x.2)).bind fun
 r=>(idxM x.2 r).bind fun r=>some r else some s.1).bind fun o=>(idxM x.1.2.2.1 s.1).bind fun r=>(idxM x.1.2.2.2 s.1).bind fun r_1=>(idxM x.1.2.2.1
 s.1).bind fun r_2=>(m32 (o,wrap .i64 (wrap .i64 (r_1-r_2)+1))).bind fun r_3=>(appM (nat_lit 8) s.2.2.2.1 [wrap .i64 (r +
 r_3)]).bind fun r_4=>(appM (nat_lit 8) s.2.2.2.2 [wrap .i64 (r+r_3)]).bind fun r=>some (Sum.inl (wrap .i64 (s.1+1),s.2.1,s.2.2.1,r_4,
 r)) else some (Sum.inr (s.2.1,s.2.2.1,s.2.2.2.1,s.2.2.2.2))) (0,x.1.1,x.1.2.1,[],[])).bind fun o=>some (o.1,o.2.1,o.2.2.1,o.2.2.2)
theorem c23:SpecOK Tryz.prog 23 ⟨as23,rs23,m23⟩ :=
 fc tabs15OK [] an23 Tryz.f23 fun x=>by kernel_rfl
def tabs23:Tabs:=Tabs.add tabs15 23 ⟨as23,rs23,m23⟩
theorem tabs23OK:TabOK Tryz.prog tabs23:=TabOK.add tabs15OK c23 Tryz.call23

/-! putlog/rational.Compare -/
def as24:List Ty:=[(.pair .str .str),(.pair .str .str)]
def rs24:List Ty:=[tI]
def an24:Ann:=.seq (.a) (.scp 0 ⟨[(5,.r (.c (.d (.d tI))))],(ra 6 39 (ra 48 10 (60::61::62::ra 64 10 ([])))),[(0,.box [.d (.d .str),.d (.d .str)]),(1,.box [.d (.d .str),.d (.d .str)])],[]⟩ [(.ret,⟨[(4,.r (.c (.d (.d tI))))],(ra 5 69 ([])),[(0,.box [.d (.d .str),.d (.d .str)]),(1,.box [.d (.d .str),.d (.d .str)])],[]⟩)] (.seq (.a) (.seq (.a) (.seq (.a) (.seq (.a) (.seq (.a) (.seq (.a) (.seq (.reg [0,1,0,7,0,16,0,112,0,256,15,1279,4095] (ra 0 13 ([])) (z0::.s [0] []::za 3 (.s [1] []::za 4 (.s [0] [0]::.s [1] [1]::z0::[]))) (.a)) (.a)))))))) (.seq (.a) (.seq (.a) (.seq (.a) (.seq (.a) (.seq (.reg [0,1,0,7,0,16,0,112,0,256,15,1279,4095] (ra 0 13 ([])) (z0::.s [0] []::za 3 (.s [1] []::za 4 (.s [0] [0]::.s [1] [1]::z0::[]))) (.a)) (.a)))))))
def m24:((List UInt8×List UInt8)×List UInt8×List UInt8)→Option (Int) :=
 fun x=>(((m55 (x.1.1,x.1.2)).bind fun r=>(bif PE.notM (PE.notM r) then m55 (x.2.1,x.2.2) else some false).bind fun r_1=>bif PE.orM (PE.notM r) (PE.notM
 r_1) then some (Sum.inr (0,x.1.1,x.1.2,x.2.1,x.2.2)) else (m56 (x.1.1,x.1.2)).bind fun r_2=>(m56 (x.2.1,x.2.2)).bind fun r_3=>(m57 (r_2.1,
 r_3.1)).bind fun r=>bif PE.notM (eqM r 0) then some (Sum.inr (wrap .i64 (1*r),x.1.1,x.1.2,x.2.1,x.2.2)) else bif PE.andM (eqsM r_2.2.1 [(48 :
 UInt8)]) (eqsM r_3.2.1 [(48:UInt8)]) then some (Sum.inr (0,x.1.1,x.1.2,x.2.1,x.2.2)) else bif eqsM r_2.2.1 [(48:UInt8)] then some (Sum.inr ((-1),
 x.1.1,x.1.2,x.2.1,x.2.2)) else bif eqsM r_3.2.1 [(48:UInt8)] then some (Sum.inr (1,x.1.1,x.1.2,x.2.1,x.2.2)) else some (Sum.inl ((-1),x.1.2,
 r_2.2.1,x.2.2,r_3.2.1))).bind (Sum.elim (loopM fun (s:Int×List UInt8×List UInt8×List UInt8×List UInt8)=>(m56 (s.2.1,s.2.2.1)).bind fun r =>
 (m56 (s.2.2.2.1,s.2.2.2.2)).bind fun r_1=>(m57 (r.1,r_1.1)).bind fun r_2=>bif PE.notM (eqM r_2 0) then some (Sum.inr (wrap .i64 (s.1*r_2),
 s.2.1,s.2.2.1,s.2.2.2.1,s.2.2.2.2)) else bif PE.andM (eqsM r.2.1 [(48:UInt8)]) (eqsM r_1.2.1 [(48:UInt8)]) then some (Sum.inr (0,s.2.1,s.2.2.1,
 s.2.2.2.1,s.2.2.2.2)) else bif eqsM r.2.1 [(48:UInt8)] then some (Sum.inr (wrap .i64 (negM s.1),s.2.1,s.2.2.1,s.2.2.2.1,s.2.2.2.2)) else bif
 eqsM r_1.2.1 [(48:UInt8)] then some (Sum.inr (s.1,s.2.1,s.2.2.1,s.2.2.2.1,s.2.2.2.2)) else some (Sum.inl (wrap .i64 (negM s.1),s.2.2.1,r.2.1,
 s.2.2.2.2,r_1.2.1))) some)).bind fun o=>some o.1
theorem c24:SpecOK Tryz.prog 24 ⟨as24,rs24,m24⟩ :=
 fc tabs23OK [] an24 Tryz.f24 fun x=>by kernel_rfl
def tabs24:Tabs:=Tabs.add tabs23 24 ⟨as24,rs24,m24⟩
theorem tabs24OK:TabOK Tryz.prog tabs24:=TabOK.add tabs23OK c24 Tryz.call24

/-! putlog/putloglaw25.FieldBounds -/
def as5:List Ty:=[(.pair tI tB),tQ,tL,tQ,tI,tI,tI,tI]
def rs5:List Ty:=[.bool]
def an5:Ann:=.seq (.a) (.seq (.a) (.seq (.a) (.seq (.a) (.seq (.a) (.seq (.a) (.seq (.a) (.seq (.a) (.seq (.a) (.seq (.a) (.seq (.a) (.seq (.reg [0,0,0,0,12,31,63] (ra 0 7 ([])) (.s [2] []::.s [3] []::.s [1] []::za 4 ([])) (.a)) (.seq (.a) (.seq (.a) (.seq (.a) (.seq (.a) (.seq (.a) (.seq (.seq (.a) (.block (.loop ⟨[(34,.r (.c (.d (.d tI))))],(ra 35 12 (ra 140 158 ([]))),[],[]⟩ [(.exit 0,⟨[],(ra 34 13 (ra 140 158 ([]))),[],[]⟩),(.ret,⟨[(16,.r (.c (.d (.d .bool))))],(ra 34 13 (ra 140 158 ([]))),[],[]⟩)] (.a)))) (.a))))))))))))))))))
def m5:((Int×Int×Int×Int)×(List (Int×Int))×List Int×(List (Int×Int))×Int×Int×Int×Int)→Option (Bool) :=
 fun x=>(m9 ()).bind fun r=>bif PE.notM r then some false else (m10 (x.1.1,x.1.2.1,6,100,x.2.1)).bind fun r_1=>(m12 (x.2.2.2.2.2.2.1,60)).bind fun r_2
 => (m12 (x.2.2.2.2.1,wrap .i64 (wrap .i64 (r_1.1*wrap .i64 (1+r_2))+1))).bind fun r_3=>(m12 (x.2.2.2.2.2.1,wrap IntKind.i64
 (wrap .i64 (r_1.2.1*wrap .i64 (1+r_2))+1))).bind fun r_4=>(m15 ((r_1.1,r_1.2.1,r_1.2.2.1,r_1.2.2.2),x.2.2.2.1)).bind fun r_5=>(m12
 (x.2.2.2.2.2.2.2,101)).bind fun r_6=>(m23 ((r_1.1,r_1.2.1,r_1.2.2.1,r_1.2.2.2),x.2.2.1)).bind fun r_7=>(m13 ((r_1.1,r_1.2.1,r_1.2.2.1,r_1.2.2.2),
 r_3,r_4,wrap .i64 (1+r_2))).bind fun r_8=>(m14 (r_1.1,r_1.2.1,r_1.2.2.1,r_1.2.2.2)).bind fun r_9=>(m17 ((r_1.1,r_1.2.1,r_1.2.2.1,
 r_1.2.2.2),r_5)).bind fun r_10=>(m18 ((r_1.1,r_1.2.1,r_1.2.2.1,r_1.2.2.2),r_6)).bind fun r_11=>bif PE.orM (PE.orM (PE.notM (eqM r_8.2.2 0)) (PE.notM
 (eqM r_10.2.2 0))) (PE.notM (eqM r_11.2.2 0)) then some false else (loopM (fun (s:Int)=>bif ltM s (lenM [(r_1.1,r_1.2.1,r_1.2.2.1,r_1.2.2.1),(r_1.1,
 r_1.2.1,r_1.2.2.2,r_1.2.2.2),(r_7.1,r_7.2.1,r_7.2.2.1,r_7.2.2.2)]) then (idxM [(r_1.1,r_1.2.1,r_1.2.2.1,r_1.2.2.1),(r_1.1,r_1.2.1,r_1.2.2.2,
 r_1.2.2.2),(r_7.1,r_7.2.1,r_7.2.2.1,r_7.2.2.2)] s).bind fun r_12=>(m13 ((r_12.1,r_12.2.1,r_12.2.2.1,r_12.2.2.2),r_3,r_4,wrap .i64 (1 +
 r_2))).bind fun r_13=>(m14 (r_12.1,r_12.2.1,r_12.2.2.1,r_12.2.2.2)).bind fun r_14=>(m17 ((r_12.1,r_12.2.1,r_12.2.2.1,r_12.2.2.2),r_5)).bind fun
 r_15=>(m18 ((r_12.1,r_12.2.1,r_12.2.2.1,r_12.2.2.2),r_6)).bind fun r_16=>(bif PE.notM (PE.orM (PE.orM (PE.orM (PE.orM (PE.orM (PE.orM (PE.orM (PE.orM
 (PE.orM (PE.orM (PE.notM (eqM r_13.2.2 0)) (PE.notM (eqM r_15.2.2 0))) (PE.notM (eqM r_16.2.2 0))) (PE.notM (eqM r_13.1 r_13.2.1))) (PE.notM (eqM r_14.1
 r_14.2))) (PE.notM (PE.andM (eqsM r_15.1.1 r_15.2.1.1) (eqsM r_15.1.2 r_15.2.1.2)))) (PE.notM (PE.andM (eqsM r_16.1.1 r_16.2.1.1) (eqsM r_16.1.2
 r_16.2.1.2)))) (ltM r_13.1 r_8.1)) (ltM r_8.2.1 r_13.1)) (ltM r_14.1 r_9.1)) (ltM r_9.2 r_14.1)) then m24 ((r_15.1.1,r_15.1.2),r_10.1.1,r_10.1.2) else some
 0).bind fun r_17=>(bif PE.notM (PE.orM (PE.orM (PE.orM (PE.orM (PE.orM (PE.orM (PE.orM (PE.orM (PE.orM (PE.orM (PE.orM (PE.notM (eqM r_13.2.2 0)) (PE.notM
 (eqM r_15.2.2 0))) (PE.notM (eqM r_16.2.2 0))) (PE.notM (eqM r_13.1 r_13.2.1))) (PE.notM (eqM r_14.1 r_14.2))) (PE.notM (PE.andM (eqsM r_15.1.1 r_15.2.1.1)
 (eqsM r_15.1.2 r_15.2.1.2)))) (PE.notM (PE.andM (eqsM r_16.1.1 r_16.2.1.1) (eqsM r_16.1.2 r_16.2.1.2)))) (ltM r_13.1 r_8.1)) (ltM r_8.2.1 r_13.1)) (ltM r_14.1
 r_9.1)) (ltM r_9.2 r_14.1)) (ltM r_17 0)) then m24 ((r_15.1.1,r_15.1.2),r_10.2.1.1,r_10.2.1.2) else some 0).bind fun r_18=>(bif PE.notM (PE.orM (PE.orM
 (PE.orM (PE.orM (PE.orM (PE.orM (PE.orM (PE.orM (PE.orM (PE.orM (PE.orM (PE.orM (PE.notM (eqM r_13.2.2 0)) (PE.notM (eqM r_15.2.2 0))) (PE.notM (eqM r_16.2.2
 0))) (PE.notM (eqM r_13.1 r_13.2.1))) (PE.notM (eqM r_14.1 r_14.2))) (PE.notM (PE.andM (eqsM r_15.1.1 r_15.2.1.1) (eqsM r_15.1.2 r_15.2.1.2)))) (PE.notM
 (PE.andM (eqsM r_16.1.1 r_16.2.1.1) (eqsM r_16.1.2 r_16.2.1.2)))) (ltM r_13.1 r_8.1)) (ltM r_8.2.1 r_13.1)) (ltM r_14.1 r_9.1)) (ltM r_9.2 r_14.1)) (ltM r_17
 0)) (ltM 0 r_18)) then m24 ((r_16.1.1,r_16.1.2),r_11.1.1,r_11.1.2) else some 0).bind fun r_19=>(bif PE.notM (PE.orM (PE.orM (PE.orM (PE.orM (PE.orM
 (PE.orM (PE.orM (PE.orM (PE.orM (PE.orM (PE.orM (PE.orM (PE.orM (PE.notM (eqM r_13.2.2 0)) (PE.notM (eqM r_15.2.2 0))) (PE.notM (eqM r_16.2.2 0))) (PE.notM
 (eqM r_13.1 r_13.2.1))) (PE.notM (eqM r_14.1 r_14.2))) (PE.notM (PE.andM (eqsM r_15.1.1 r_15.2.1.1) (eqsM r_15.1.2 r_15.2.1.2)))) (PE.notM (PE.andM (eqsM
 r_16.1.1 r_16.2.1.1) (eqsM r_16.1.2 r_16.2.1.2)))) (ltM r_13.1 r_8.1)) (ltM r_8.2.1 r_13.1)) (ltM r_14.1 r_9.1)) (ltM r_9.2 r_14.1)) (ltM r_17 0)) (ltM 0
 r_18)) (ltM r_19 0)) then m24 ((r_16.1.1,r_16.1.2),r_11.2.1.1,r_11.2.1.2) else some 0).bind fun r=>bif PE.orM (PE.orM (PE.orM (PE.orM (PE.orM (PE.orM
 (PE.orM (PE.orM (PE.orM (PE.orM (PE.orM (PE.orM (PE.orM (PE.orM (PE.notM (eqM r_13.2.2 0)) (PE.notM (eqM r_15.2.2 0))) (PE.notM (eqM r_16.2.2 0))) (PE.notM
 (eqM r_13.1 r_13.2.1))) (PE.notM (eqM r_14.1 r_14.2))) (PE.notM (PE.andM (eqsM r_15.1.1 r_15.2.1.1) (eqsM r_15.1.2 r_15.2.1.2)))) (PE.notM (PE.andM (eqsM
 r_16.1.1 r_16.2.1.1) (eqsM r_16.1.2 r_16.2.1.2)))) (ltM r_13.1 r_8.1)) (ltM r_8.2.1 r_13.1)) (ltM r_14.1 r_9.1)) (ltM r_9.2 r_14.1)) (ltM r_17 0)) (ltM 0
 r_18)) (ltM r_19 0)) (ltM 0 r) then some (Sum.inr (Sum.inr false)) else bif PE.orM (PE.andM (eqM s 0) (PE.orM (PE.orM (PE.orM (PE.notM (eqM r_13.1 r_8.1))
 (PE.notM (eqM r_14.1 r_9.1))) (PE.notM (PE.andM (eqsM r_15.1.1 r_10.1.1) (eqsM r_15.1.2 r_10.1.2)))) (PE.notM (PE.andM (eqsM r_16.1.1 r_11.1.1) (eqsM r_16.1.2
 r_11.1.2))))) (PE.andM (eqM s 1) (PE.orM (PE.orM (PE.orM (PE.notM (eqM r_13.1 r_8.2.1)) (PE.notM (eqM r_14.1 r_9.2))) (PE.notM (PE.andM (eqsM r_15.1.1
 r_10.2.1.1) (eqsM r_15.1.2 r_10.2.1.2)))) (PE.notM (PE.andM (eqsM r_16.1.1 r_11.2.1.1) (eqsM r_16.1.2 r_11.2.1.2))))) then some (Sum.inr (Sum.inr false)) else
 some (Sum.inl (wrap .i64 (s+1))) else some (Sum.inr (Sum.inl ()))) 0).bind fun o=>Sum.elim (fun (t:Unit)=>some r) (fun (t:Bool)=>some t) o
theorem c5:SpecOK Tryz.prog 5 ⟨as5,rs5,m5⟩ :=
 fc tabs24OK [] an5 Tryz.f5 fun x=>by kernel_rfl
def tabs5:Tabs:=Tabs.add tabs24 5 ⟨as5,rs5,m5⟩
theorem tabs5OK:TabOK Tryz.prog tabs5:=TabOK.add tabs24OK c5 Tryz.call5
end
end Go.Proofs.YtechphmljdgoaaaGreatDoor

namespace Go.PE
def Le {α:Type} (a b:Option α):Prop:=∀ r,a=some r→b=some r
theorem Le.refl {α:Type} (a:Option α):Le a a:=fun _ h=>h
theorem Le.bind {α β:Type} {a a':Option α} {f f':α→Option β} (h:Le a a') (hf:∀ x,Le (f x) (f' x)):Le (Option.bind a f) (Option.bind a' f'):=by
 intro r hr
 cases a with
 | none=>cases hr
 | some x =>
  rw [h x rfl]
  exact hf x r hr
theorem Le.cond {α:Type} {c:Bool} {a a' b b':Option α} (h:Le a a') (h':Le b b'):Le (cond c a b) (cond c a' b'):=by
 cases c
 ·exact h'
 ·exact h
theorem Le.elim {α β γ:Type} {f f':α→Option γ} {g g':β→Option γ} (hf:∀ x,Le (f x) (f' x)) (hg:∀ x,Le (g x) (g' x)) (x:α⊕β):Le (Sum.elim f g x) (Sum.elim f' g' x):=by
 cases x with
 | inl a=>exact hf a
 | inr b=>exact hg b
theorem Le.iter {σ β:Type} {body body':σ→Option (σ⊕β)} (h:∀ s,Le (body s) (body' s)):∀ (n:Nat) (s:σ),Le (iterM body n s) (iterM body' n s)
 | 0,_=>Le.refl _
 | n+1,s=>by
  unfold iterM
  exact Le.bind (h s) fun x=>Le.elim (Le.iter h n) (fun _=>Le.refl _) x
def loopF {σ β:Type} (body:σ→Option (σ⊕β)) (s:σ):Option β:=iterM body 4096 s
theorem Le.loop {σ β:Type} {body body':σ→Option (σ⊕β)} (h:∀ s,Le (body s) (body' s)) (s:σ):Le (loopF body s) (loopM body' s) :=
 fun r hr=>loopM_iff.2 ⟨4096,Le.iter h 4096 s r hr⟩
def nilF {α β:Type} (xs:List α) (a b:Option β):Option β:=match xs with
 | []=>none
 | _::_=>b
theorem Le.nil {α β:Type} {xs:List α} {a a' b b':Option β} (h:Le b b'):Le (nilF xs a b) (nilM xs a' b'):=by
 cases xs with
 | nil=>intro r hr;cases hr
 | cons x xs=>exact h
theorem Le.out {α:Type} {a b:Option α} (h:Le a b) {r:α} (e:a=some r):b=some r:=h r e
attribute [irreducible] Le
end Go.PE
