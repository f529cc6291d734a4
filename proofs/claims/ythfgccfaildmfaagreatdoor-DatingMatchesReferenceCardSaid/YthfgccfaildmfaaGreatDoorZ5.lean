/-
 Texts of this proof, put together: M2, So163, M3, M4, M5, M6, M7, Ba, Bb, Bc, Bd, Be, Bf, Bg, Bh, Bi, Bj, Bk, Bl, Bm, Bn, Bo, Bp, Bq, Br, Bt, Bu, Bv, Bw, Bx, By, Bz, BA, BB, BC.
 No conditions.
-/
import Derived.Test.YthfgccfaildmfaaGreatDoorZ4
import Derived.Shelf.SlLaysF0
set_option linter.all false
namespace Go.Proofs.YthfgccfaildmfaaGreatDoor
open Go Go.Abs Go.PE Go.Proofs
open Go.IntKind (wrap)
set_option maxRecDepth 100000
noncomputable section

/-! putlog/calendar.bounds -/
def as113:List Ty:=[tP,(.list tB),(.pair tI (.pair tI tC))]
def rs113:List Ty:=[tQ]
def an113:Ann:=.seq (.a) (.seq (.a) (.seq (.join [(.norm,⟨[(7,.r (.c (.h 2)))],(8::9::ra 14 16 ([])),[],[.arr tP]⟩)] (.a)) (.seq (.seq (.a) (.block (.loop ⟨[],[],[],[]⟩ [(.exit 0,⟨[],[33],[],[]⟩)] (.a)))) (.seq (.reg [] [] [z0,.r,z0] (.call [] [] (.seq (.a) (.seq (.a) (.seq (.a) (.seq (.seq (.a) (.block (.loop ⟨[(3,.r (.c (.h 3))),(11,.r (.c (.d (.d tI))))],(5::6::ra 12 37 ([])),[],[.arr tP]⟩ [(.exit 0,⟨[(3,.r (.c (.h 3)))],(5::6::ra 11 38 ([])),[],[.arr tP]⟩)] (.seq (.a) (.seq (.a) (.seq (.join [(.norm,⟨[(3,.r (.c (.h 4)))],(5::6::ra 13 35 ([])),[(3,.gone)],[.arr tP]⟩)] (.block (.seq (.a) (.seq (.a) (.seq (.reg [0,1,3,7,15,7,7,71,231,487,999,2047,4095] (ra 0 13 ([])) (za 4 (.s [4] []::za 3 (.s [3] []::z0::.s [3] []::z0::z0::[]))) (.a)) (.cond (.reg [0,0,2,0,0,16,56,120,248,0,512,2040,4095,8191,16383] (ra 0 15 ([])) (za 6 (.s [3] []::z0::.s [3] []::z0::.s [4] []::z0::.s [3] []::z0::.s [3] [3]::[])) (.a)) (.a))))))) (.a))))))) (.a))))) (.a))) (.a)))))
def m113:((Int×Int)×(List (Int×Int×Int))×Int×Int×Int×Int×Int×Int×Int)→Option (List (Int×Int)) :=
 fun x=>(bif ltM x.2.2.2.2.2.2.2.2 0 then (m148 ((x.1.1,x.1.2),x.2.2.2.2.2.2.2.1)).bind fun r=>bif eqM r.2 0 then (appM (nat_lit 16) [] [(r.1.1,
 r.1.2)]).bind fun r=>some r else some [] else some []).bind fun o=>(loopM (fun (s:Unit)=>bif ltM 0 (lenM x.2.1) then (idxM x.2.1 0).bind fun r=>none
 else some (Sum.inr ())) ()).bind fun o_1=>(sortM (Ty.pair (Ty.int IntKind.i64) (Ty.int IntKind.i64)) cf156 o).bind fun r=>(loopM (fun (s:Int×List (Int
 × Int))=>bif ltM s.1 (lenM r) then ((chkM s.1 (lenM r)).bind fun r_1=>(idxM r s.1).bind fun r_2=>(bif ltM 0 (lenM s.2) then chkM (wrap IntKind.i64 (lenM
 s.2-1)) (lenM s.2) else some ()).bind fun r_3=>(bif ltM 0 (lenM s.2) then (idxM s.2 (wrap IntKind.i64 (lenM s.2-1))).bind fun (x:Int×Int)=>some
 x.2 else some 0).bind fun r_4=>bif PE.andM (ltM 0 (lenM s.2)) (leM r_2.1 r_4) then (chkM (wrap IntKind.i64 (lenM s.2-1)) (lenM s.2)).bind fun r_5 =>
 ((idxM s.2 (wrap IntKind.i64 (lenM s.2-1))).bind fun (x:Int×Int)=>some x.2).bind fun r_6=>(chkM (wrap IntKind.i64 (lenM s.2-1)) (lenM s.2)).bind
 fun r_7=>(setM s.2 (wrap IntKind.i64 (lenM s.2-1)) fun (x:Int×Int)=>some (x.1,max r_6 r_2.2)).bind fun r=>some r else (appM (nat_lit 16) s.2
 [(r_2.1,r_2.2)]).bind fun r=>some r).bind fun o=>some (Sum.inl (wrap IntKind.i64 (s.1+1),o)) else some (Sum.inr s.2)) (0,[])).bind fun o=>some o
theorem c113:SpecOK Tryz.prog 113 ⟨as113,rs113,m113⟩ :=
 fc tabsS156OK [] an113 Tryz.f113 fun x=>by kernel_rfl
def tabs113:Tabs:=Tabs.add tabsS156 113 ⟨as113,rs113,m113⟩
theorem tabs113OK:TabOK Tryz.prog tabs113:=TabOK.add tabsS156OK c113 Tryz.call113

/-! putlog/calendar.Days -/
def as69:List Ty:=[tP,(.list tB),(.pair tI (.pair tI tC))]
def rs69:List Ty:=[tQ,tI]
def an69:Ann:=.seq (.a) (.seq (.a) (.seq (.seq (.reg [] [] [.s [0] [],z0,z0,z0,.s [1] [],z0,z0,z0,z0,z0,z0,z0,z0,z0,z0,z0,.r,z0] (.call [] [(.norm,⟨[(29,.r (.c (.d (.d .bool))))],[],[],[]⟩)] (.seq (.a) (.seq (.reg [] [] [z0,z0,.r,z0,z0] (.call [] [(.norm,⟨[(7,.r (.c (.d (.d tI))))],[],[],[]⟩)] (.seq (.a) (.seq (.seq (.a) (.block (.loop ⟨[(8,.r (.c (.d (.d tI))))],(5::ra 9 8 (18::[])),[],[]⟩ [(.exit 0,⟨[],(5::ra 8 9 (18::[])),[],[]⟩),(.ret,⟨[(4,.r (.c (.d (.d tI))))],(5::ra 8 11 ([])),[],[]⟩)] (.a)))) (.a))) (.a))) (.a))) (.a))) (.a)) (.a)))
def m69:((Int×Int)×(List (Int×Int×Int))×Int×Int×Int×Int×Int×Int×Int)→Option ((List (Int×Int))×Int) :=
 fun x=>(m110 (x.1.1,x.1.2)).bind fun r=>(bif PE.notM (PE.notM r) then m111 (x.2.2.1,x.2.2.2.1,x.2.2.2.2.1,x.2.2.2.2.2.1,x.2.2.2.2.2.2.1,
 x.2.2.2.2.2.2.2.1,x.2.2.2.2.2.2.2.2) else some false).bind fun r_1=>(bif PE.notM (PE.orM (PE.orM (PE.notM r) (PE.notM r_1)) (ltM 12 (lenM x.2.1))) then
 ((loopM (fun (s:Int)=>bif ltM s (lenM x.2.1) then (idxM x.2.1 s).bind fun r_2=>(m108 (r_2.1,r_2.2.1,r_2.2.2)).bind fun r=>bif r then some (Sum.inr
 (Sum.inr s)) else some (Sum.inl (wrap IntKind.i64 (s+1))) else some (Sum.inr (Sum.inl ()))) 0).bind fun o=>Sum.elim (fun (t:Unit)=>some (-1)) (fun (t
 : Int)=>some t) o).bind fun (ov:Int)=>some (leM 0 ov) else some false).bind fun (ov:Bool)=>bif PE.orM (PE.orM (PE.orM (PE.notM r) (PE.notM r_1))
 (ltM 12 (lenM x.2.1))) ov then some ([],200) else (m113 ((x.1.1,x.1.2),x.2.1,x.2.2.1,x.2.2.2.1,x.2.2.2.2.1,x.2.2.2.2.2.1,x.2.2.2.2.2.2.1,
 x.2.2.2.2.2.2.2.1,x.2.2.2.2.2.2.2.2)).bind fun r=>bif PE.andM (eqM x.2.2.2.2.1 0) (eqM x.2.2.2.2.2.1 0) then some (r,0) else none
theorem c69:SpecOK Tryz.prog 69 ⟨as69,rs69,m69⟩ :=
 fc tabs113OK [] an69 Tryz.f69 fun x=>by kernel_rfl
def tabs69:Tabs:=Tabs.add tabs113 69 ⟨as69,rs69,m69⟩
theorem tabs69OK:TabOK Tryz.prog tabs69:=TabOK.add tabs113OK c69 Tryz.call69

/-! putlog/calendar.DateOf -/
def as70:List Ty:=[tP,tI]
def rs70:List Ty:=[tB,tI]
def an70:Ann:=.a
def m70:((Int×Int)×Int)→Option ((Int×Int×Int)×Int) :=
 fun x=>(m110 (x.1.1,x.1.2)).bind fun r=>(bif PE.notM (PE.notM r) then m118 (x.2,0,800000) else some false).bind fun r_1=>bif PE.orM (PE.notM r)
 (PE.notM r_1) then some ((0,0,0),200) else (m119 ((x.1.1,x.1.2),x.2)).bind fun r=>some ((r.1,r.2.1,r.2.2),0)
theorem c70:SpecOK Tryz.prog 70 ⟨as70,rs70,m70⟩ :=
 fc tabs69OK [] an70 Tryz.f70 fun x=>by kernel_rfl
def tabs70:Tabs:=Tabs.add tabs69 70 ⟨as70,rs70,m70⟩
theorem tabs70OK:TabOK Tryz.prog tabs70:=TabOK.add tabs69OK c70 Tryz.call70

/-! putlog/dating.Document -/
def as31:List Ty:=[tP,(.list tB),(.pair tI (.pair tI tC)),tI]
def rs31:List Ty:=[tC,tI]
def an31:Ann:=.seq (.a) (.seq (.a) (.seq (.a) (.seq (.reg [0,0,2,6,14,31,63,127,127,0,767,2047] (ra 0 12 ([])) (.s [0] []::za 8 (.s [] [3]::.s [3] [3]::z0::[])) (.a)) (.seq (.reg [0,0,0,4,12,30,62,126,254,511,1023,2047,2047,0,12287,32767] (ra 0 16 ([])) (.s [0] []::za 12 (.s [] [4]::.s [4] [4]::z0::[])) (.a)) (.a)))))
def m31:((Int×Int)×(List (Int×Int×Int))×(Int×Int×Int×Int×Int×Int×Int)×Int)→Option ((Int×Int×Int×Int×Int)×Int) :=
 fun x=>(m69 ((x.1.1,x.1.2),x.2.1,x.2.2.1.1,x.2.2.1.2.1,x.2.2.1.2.2.1,x.2.2.1.2.2.2.1,x.2.2.1.2.2.2.2.1,x.2.2.1.2.2.2.2.2.1,x.2.2.1.2.2.2.2.2.2)).bind
 fun r=>(bif PE.notM (PE.orM (PE.notM (eqM r.2 0)) (eqM (lenM r.1) 0)) then m54 (x.2.2.2,0,7) else some false).bind fun r_1=>bif PE.orM (PE.orM (PE.notM
 (eqM r.2 0)) (eqM (lenM r.1) 0)) (PE.notM r_1) then some ((0,0,0,0,0),220) else (idxM r.1 0).bind fun r_2=>(m70 ((x.1.1,x.1.2),r_2.1)).bind fun r_3
 => (idxM r.1 (wrap IntKind.i64 (lenM r.1-1))).bind fun r_4=>(m70 ((x.1.1,x.1.2),wrap IntKind.i64 (r_4.2-1))).bind fun r=>bif ltM 2100 r_3.1.1 then
 some ((0,0,0,0,0),220) else some ((1,x.2.2.2,0,r_3.1.1,wrap IntKind.i64 (min 2100 r.1.1+1)),0)
theorem c31:SpecOK Tryz.prog 31 ⟨as31,rs31,m31⟩ :=
 fc tabs70OK [] an31 Tryz.f31 fun x=>by kernel_rfl
def tabs31:Tabs:=Tabs.add tabs70 31 ⟨as31,rs31,m31⟩
theorem tabs31OK:TabOK Tryz.prog tabs31:=TabOK.add tabs70OK c31 Tryz.call31

/-! putlog/ring.isIn -/
def as121:List Ty:=[tI,tI,tI]
def rs121:List Ty:=[.bool]
def an121:Ann:=.a
def m121:(Int×Int×Int)→Option (Bool) :=
 fun x=>some (PE.andM (leM x.2.1 x.1) (leM x.1 x.2.2))
theorem c121:SpecOK Tryz.prog 121 ⟨as121,rs121,m121⟩ :=
 fc tabs31OK [] an121 Tryz.f121 fun x=>by kernel_rfl
def tabs121:Tabs:=Tabs.add tabs31 121 ⟨as121,rs121,m121⟩
theorem tabs121OK:TabOK Tryz.prog tabs121:=TabOK.add tabs31OK c121 Tryz.call121

/-! putlog/ring.areWidths$1 -/
def as210:List Ty:=[tI]
def rs210:List Ty:=[.bool]
def an210:Ann:=.a
def m210:Int→Option (Bool) :=
 fun x=>(m121 (x,1,9999)).bind fun r=>some (PE.notM r)
theorem c210:SpecOK Tryz.prog 210 ⟨as210,rs210,m210⟩ :=
 fc tabs121OK [] an210 Tryz.f210 fun x=>by kernel_rfl
def tabs210:Tabs:=Tabs.add tabs121 210 ⟨as210,rs210,m210⟩
theorem tabs210OK:TabOK Tryz.prog tabs210:=TabOK.add tabs121OK c210 Tryz.call210

/-! putlog/ring.areWidths -/
def as188:List Ty:=[tL,tI]
def rs188:List Ty:=[.bool]
def an188:Ann:=.seq (.a) (.seq (.a) (.seq (.reg [] [] [z0,z0,z0,z0,z0,z0,z0,.r,z0,z0,z0] (.call [] [(.norm,⟨[(13,.r (.c (.d (.d .bool))))],[],[],[]⟩)] (.seq (.a) (.seq (.reg [] [] [z0,z0,.r,z0,z0] (.call [] [(.norm,⟨[(7,.r (.c (.d (.d tI))))],[],[],[]⟩)] (.seq (.a) (.seq (.seq (.a) (.block (.loop ⟨[(8,.r (.c (.d (.d tI))))],(5::ra 9 8 (18::[])),[],[]⟩ [(.exit 0,⟨[],(5::ra 8 9 (18::[])),[],[]⟩),(.ret,⟨[(4,.r (.c (.d (.d tI))))],(5::ra 8 11 ([])),[],[]⟩)] (.a)))) (.a))) (.a))) (.a))) (.a))) (.a)))
def m188:(List Int×Int)→Option (Bool) :=
 fun x=>(m121 (lenM x.1,2,x.2)).bind fun r=>(bif r then ((loopM (fun (s:Int)=>bif ltM s (lenM x.1) then (idxM x.1 s).bind fun r_1=>(m210 r_1).bind
 fun r=>bif r then some (Sum.inr (Sum.inr s)) else some (Sum.inl (wrap IntKind.i64 (s+1))) else some (Sum.inr (Sum.inl ()))) 0).bind fun o=>Sum.elim (fun
 (t:Unit)=>some (-1)) (fun (t:Int)=>some t) o).bind fun (ov:Int)=>some (leM 0 ov) else some false).bind fun (ov:Bool)=>some (PE.andM r (PE.notM
 ov))
theorem c188:SpecOK Tryz.prog 188 ⟨as188,rs188,m188⟩ :=
 fc tabs210OK [] an188 Tryz.f188 fun x=>by kernel_rfl
def tabs188:Tabs:=Tabs.add tabs210 188 ⟨as188,rs188,m188⟩
theorem tabs188OK:TabOK Tryz.prog tabs188:=TabOK.add tabs210OK c188 Tryz.call188

/-! putlog/ring.Valid -/
def as159:List Ty:=[(.pair tI tL)]
def rs159:List Ty:=[.bool]
def an159:Ann:=.a
def m159:(Int×List Int)→Option (Bool) :=
 fun x=>(m188 (x.2,200)).bind fun r=>(bif r then m121 (x.1,0,wrap IntKind.i64 (2101-lenM x.2)) else some false).bind fun r_1=>some (PE.andM r r_1)
theorem c159:SpecOK Tryz.prog 159 ⟨as159,rs159,m159⟩ :=
 fc tabs188OK [] an159 Tryz.f159 fun x=>by kernel_rfl
def tabs159:Tabs:=Tabs.add tabs188 159 ⟨as159,rs159,m159⟩
theorem tabs159OK:TabOK Tryz.prog tabs159:=TabOK.add tabs188OK c159 Tryz.call159

/-! putlog/ring.Sample -/
def as160:List Ty:=[tL]
def rs160:List Ty:=[.bool]
def an160:Ann:=.a
def m160:List Int→Option (Bool) :=
 fun x=>(m188 (x,60)).bind fun r=>some r
theorem c160:SpecOK Tryz.prog 160 ⟨as160,rs160,m160⟩ :=
 fc tabs159OK [] an160 Tryz.f160 fun x=>by kernel_rfl
def tabs160:Tabs:=Tabs.add tabs159 160 ⟨as160,rs160,m160⟩
theorem tabs160OK:TabOK Tryz.prog tabs160:=TabOK.add tabs159OK c160 Tryz.call160

/-! putlog/ring.differ$1 -/
def as191:List Ty:=[tP]
def rs191:List Ty:=[.bool]
def an191:Ann:=.a
def m191:(Int×Int)→Option (Bool) :=
 fun x=>some (PE.notM (eqM x.1 x.2))
theorem c191:SpecOK Tryz.prog 191 ⟨as191,rs191,m191⟩ :=
 fc tabs160OK [] an191 Tryz.f191 fun x=>by kernel_rfl
def tabs191:Tabs:=Tabs.add tabs160 191 ⟨as191,rs191,m191⟩
theorem tabs191OK:TabOK Tryz.prog tabs191:=TabOK.add tabs160OK c191 Tryz.call191

/-! putlog/ring.differ -/
def as161:List Ty:=[tL,tL]
def rs161:List Ty:=[tI]
def an161:Ann:=.seq (.a) (.seq (.reg [] [] [z0,z0,.r,.r,z0] (.call [] [] (.seq (.a) (.a)) (.call [] [] (.seq (.a) (.seq (.a) (.seq (.seq (.a) (.block (.call [] [] (.seq (.a) (.seq (.reg [] [] [.s [0] [],.r] (.call [] [] (.seq (.a) (.a)) (.a))) (.block (.call [] [] (.seq (.a) (.block (.loop ⟨[(3,.r (.c (.d (.d tI))))],(ra 4 21 ([])),[(3,.box [.d (.d tI)]),(4,.lp .ready),(7,.lp .ready)],[]⟩ [(.exit 0,⟨[],(ra 3 22 ([])),[(3,.box [.d (.d tI)]),(4,.lp .ready),(7,.lp .ready)],[]⟩)] (.seq (.a) (.seq (.block (.seq (.reg [0,0,2,0,0,24,56,0,0,256,896,1920,4088,8191,16383] (ra 0 15 ([])) [z0,z0,z0,.s [6] [],z0,z0,z0,.s [6] [],z0,z0,z0,z0,z0,.r,z0] (.call [] [] (.seq (.a) (.block (.seq (.reg [0,0,0,0,8,28,60,0,0,384,896,2044,4094,8191,16383] (ra 0 15 ([])) [.s [5] [],z0,.s [1] [],z0,z0,z0,z0,.s [1] [],z0,z0,z0,z0,z0,.r,z0] (.call [] [] (.seq (.a) (.join [(.norm,⟨[],[9,10,11,12,13],[(3,.box [.d (.d tI)])],[]⟩)] (.a))) (.a))) (.a)))) (.a))) (.a))) (.a)))))) (.a))))) (.a)))) (.a)))) (.a)))) (.a))
def m161:(List Int×List Int)→Option (Int) :=
 fun x=>(loopM (fun (s:Int×Int)=>bif ltM s.1 (lenM x.1) then (idxM x.1 s.1).bind fun r=>(idxM x.1 (wrap IntKind.i64 (s.1-1))).bind fun r_1=>(m157
 (r,r_1)).bind fun r_2=>(idxM x.2 (wrap IntKind.i64 (wrap IntKind.i64 (s.1-1)+1))).bind fun r_3=>(idxM x.2 (wrap IntKind.i64 (s.1-1))).bind fun r_4
 => (m157 (r_3,r_4)).bind fun r_5=>((m191 (r_2,r_5)).bind fun r=>bif r then some (wrap IntKind.i64 (s.2+1)) else some s.2).bind fun o=>some (Sum.inl
 (wrap IntKind.i64 (s.1+1),o)) else some (Sum.inr s.2)) (1,0)).bind fun o=>some o
theorem c161:SpecOK Tryz.prog 161 ⟨as161,rs161,m161⟩ :=
 fc tabs191OK [] an161 Tryz.f161 fun x=>by kernel_rfl
def tabs161:Tabs:=Tabs.add tabs191 161 ⟨as161,rs161,m161⟩
theorem tabs161OK:TabOK Tryz.prog tabs161:=TabOK.add tabs191OK c161 Tryz.call161

/-! putlog/ring.Match$1 -/
def as163:List Ty:=[tP,tP]
def rs163:List Ty:=[tI]
def an163:Ann:=.seq (.a) (.seq (.reg [0,1,0,4,15,0,32,0,128,511,1023,2047,4095] (ra 0 13 ([])) (z0::.s [0] []::z0::.s [1] []::z0::z0::.s [0] []::z0::.s [1] []::za 4 ([])) (.a)) (.a))
def m163:((Int×Int)×Int×Int)→Option (Int) :=
 fun x=>(m157 (x.1.2,x.2.2)).bind fun r=>(m157 (x.1.1,x.2.1)).bind fun r_1=>(m164 [r,r_1]).bind fun r=>some r
theorem c163:SpecOK Tryz.prog 163 ⟨as163,rs163,m163⟩ :=
 fc tabs161OK [] an163 Tryz.f163 fun x=>by kernel_rfl
def tabs163:Tabs:=Tabs.add tabs161 163 ⟨as163,rs163,m163⟩
theorem tabs163OK:TabOK Tryz.prog tabs163:=TabOK.add tabs161OK c163 Tryz.call163
end
end Go.Proofs.YthfgccfaildmfaaGreatDoor
namespace Go.Proofs
open Go.Shelf
def Tryz.lays162_ren:Go.Shelf.Ren:=⟨fun | 6=>162 | 15=>143 | 14=>192 | 28=>175 | 29=>176 | 20=>213 | 21=>214 | 22=>215 | 23=>216 | 24=>217 | 25=>218 | 26=>219 | 27=>220 | 46=>226 | 47=>194 | 48=>195 | 49=>227 | 50=>228 | 57=>230 | n=>n,fun | 22=>176 | 24=>180 | 25=>212 | 3=>3 | 39=>191 | 0=>0 | 53=>223 | 55=>225 | 4=>4 | 46=>215 | 45=>214 | 50=>220 | 5=>5 | 9=>9 | 66=>240 | 70=>244 | 76=>260 | 77=>153 | n=>n,fun | n=>n⟩
theorem Tryz.lays162:Go.Proofs.SlLaysF0.n6 Tryz.prog Tryz.lays162_ren:={
 mixed:=by kernel_rfl
 f6:=⟨Tryz.f162.name,by decide,Tryz.func162.trans (congrArg some (by kernel_rfl))⟩
 f14:=⟨Tryz.f192.name,by decide,Tryz.func192.trans (congrArg some (by kernel_rfl))⟩
 f15:=Tryz.func143.trans (congrArg some (by kernel_rfl))
 f20:=⟨Tryz.f213.name,by decide,Tryz.func213.trans (congrArg some (by kernel_rfl))⟩
 f21:=⟨Tryz.f214.name,by decide,Tryz.func214.trans (congrArg some (by kernel_rfl))⟩
 f22:=⟨Tryz.f215.name,by decide,Tryz.func215.trans (congrArg some (by kernel_rfl))⟩
 f23:=⟨Tryz.f216.name,by decide,Tryz.func216.trans (congrArg some (by kernel_rfl))⟩
 f24:=⟨Tryz.f217.name,by decide,Tryz.func217.trans (congrArg some (by kernel_rfl))⟩
 f25:=⟨Tryz.f218.name,by decide,Tryz.func218.trans (congrArg some (by kernel_rfl))⟩
 f26:=⟨Tryz.f219.name,by decide,Tryz.func219.trans (congrArg some (by kernel_rfl))⟩
 f27:=⟨Tryz.f220.name,by decide,Tryz.func220.trans (congrArg some (by kernel_rfl))⟩
 f28:=Tryz.func175.trans (congrArg some (by kernel_rfl))
 f29:=Tryz.func176.trans (congrArg some (by kernel_rfl))
 f46:=⟨Tryz.f226.name,by decide,Tryz.func226.trans (congrArg some (by kernel_rfl))⟩
 f47:=Tryz.func194.trans (congrArg some (by kernel_rfl))
 f48:=Tryz.func195.trans (congrArg some (by kernel_rfl))
 f49:=⟨Tryz.f227.name,by decide,Tryz.func227.trans (congrArg some (by kernel_rfl))⟩
 f50:=⟨Tryz.f228.name,by decide,Tryz.func228.trans (congrArg some (by kernel_rfl))⟩
 f57:=⟨Tryz.f230.name,by decide,Tryz.func230.trans (congrArg some (by kernel_rfl))⟩
 t0:=Tryz.underlying0
 a0:=Tryz.isAgg0
 z0:=Tryz.sizeOf0
 v0:=Tryz.zeroValue0
 t3:=Tryz.underlying3
 a3:=Tryz.isAgg3
 z3:=Tryz.sizeOf3
 v3:=Tryz.zeroValue3
 t4:=Tryz.underlying4
 a4:=Tryz.isAgg4
 z4:=Tryz.sizeOf4
 v4:=Tryz.zeroValue4
 t5:=Tryz.underlying5
 a5:=Tryz.isAgg5
 z5:=Tryz.sizeOf5
 v5:=Tryz.zeroValue5
 t9:=Tryz.underlying9
 a9:=Tryz.isAgg9
 z9:=Tryz.sizeOf9
 v9:=Tryz.zeroValue9
 t22:=Tryz.underlying176
 a22:=Tryz.isAgg176
 z22:=Tryz.sizeOf176
 v22:=Tryz.zeroValue176
 t25:=Tryz.underlying212
 a25:=Tryz.isAgg212
 z25:=Tryz.sizeOf212
 v25:=Tryz.zeroValue212
 t39:=Tryz.underlying191
 a39:=Tryz.isAgg191
 z39:=Tryz.sizeOf191
 v39:=Tryz.zeroValue191
 t45:=Tryz.underlying214
 a45:=Tryz.isAgg214
 z45:=Tryz.sizeOf214
 v45:=Tryz.zeroValue214
 t46:=Tryz.underlying215
 a46:=Tryz.isAgg215
 z46:=Tryz.sizeOf215
 v46:=Tryz.zeroValue215
 t50:=Tryz.underlying220
 a50:=Tryz.isAgg220
 z50:=Tryz.sizeOf220
 v50:=Tryz.zeroValue220
 t53:=Tryz.underlying223
 a53:=Tryz.isAgg223
 z53:=Tryz.sizeOf223
 v53:=Tryz.zeroValue223
 t55:=Tryz.underlying225
 a55:=Tryz.isAgg225
 z55:=Tryz.sizeOf225
 v55:=Tryz.zeroValue225
 t66:=Tryz.underlying240
 a66:=Tryz.isAgg240
 z66:=Tryz.sizeOf240
 v66:=Tryz.zeroValue240
 t70:=Tryz.underlying244
 a70:=Tryz.isAgg244
 z70:=Tryz.sizeOf244
 v70:=Tryz.zeroValue244
 t76:=Tryz.underlying260
 a76:=Tryz.isAgg260
 z76:=Tryz.sizeOf260
 v76:=Tryz.zeroValue260
 t77:=Tryz.underlying153
 a77:=Tryz.isAgg153
 z77:=Tryz.sizeOf153
 v77:=Tryz.zeroValue153 }
end Go.Proofs
namespace Go.Proofs.YthfgccfaildmfaaGreatDoor
open Go Go.Abs Go.PE Go.Sort
open Go.Proofs (ltOf)
theorem m164_two (a b:Int):m164 [a,b]=some (if a=0 then b else a):=by
 unfold m164
 rw [loopM_eq]
 show Option.bind (Option.bind (bif PE.notM (eqM a 0) then some (Sum.inr (Sum.inr a)) else some (Sum.inl (1:Int))) (Sum.elim (loopM _) some)) _=_
 by_cases h1:a=0
 ·have n1:eqM a 0=true:=decide_eq_true h1
  rw [n1,if_pos h1]
  show Option.bind (loopM _ (1:Int)) _=_
  rw [loopM_eq]
  show Option.bind (Option.bind (bif PE.notM (eqM b 0) then some (Sum.inr (Sum.inr b)) else some (Sum.inl (2:Int))) (Sum.elim (loopM _) some)) _=_
  by_cases h2:b=0
  ·have n2:eqM b 0=true:=decide_eq_true h2
   rw [n2,h2]
   show Option.bind (loopM _ (2:Int)) _=_
   rw [loopM_eq]
   rfl
  ·have n2:eqM b 0=false:=decide_eq_false h2
   rw [n2]
   rfl
 ·have n1:eqM a 0=false:=decide_eq_false h1
  rw [n1,if_neg h1]
  rfl
def cf163 (x y:Int×Int):Int:=if cmpI x.2 y.2=0 then cmpI x.1 y.1 else cmpI x.2 y.2
theorem hm163 (x y:Int×Int):m163 (x,y)=some (cf163 x y):=by
 unfold m163 cf163
 dsimp only
 rw [m157_eq,m157_eq,Option.bind_some,Option.bind_some,m164_two]
 rfl
theorem lt163 (x y:Int×Int):ltOf cf163 x y=decide (x.2<y.2∨(x.2=y.2∧x.1<y.1)):=by
 unfold ltOf cf163 cmpI
 rcases Int.lt_trichotomy x.2 y.2 with h | h | h
 ·simp [h]
 ·rcases Int.lt_trichotomy x.1 y.1 with g | g | g
  ·simp [h,g]
  ·simp [h,g]
  ·have:¬ x.1<y.1:=by omega
   simp [h,g,this]
 ·have h1:¬ x.2<y.2:=by omega
  have h2:¬ x.2=y.2:=by omega
  simp [h,h1,h2]
theorem swo163:SWO (ltOf cf163) where
 irrefl x:=by rw [lt163];simp
 trans x y z h1 h2:=by
  rw [lt163] at *
  have h1:=of_decide_eq_true h1
  have h2:=of_decide_eq_true h2
  exact decide_eq_true (by omega)
 ntrans x y z h1 h2:=by
  rw [lt163] at *
  have h1:=of_decide_eq_false h1
  have h2:=of_decide_eq_false h2
  exact decide_eq_false (by omega)
end Go.Proofs.YthfgccfaildmfaaGreatDoor
namespace Go.Proofs.YthfgccfaildmfaaGreatDoor
open Go Go.Abs Go.PE Go.Proofs
theorem sort163:SortOK Tryz.prog ⟨162,163,(.pair tI tI),sortM (.pair tI tI) cf163⟩:=sortOK_of (t:=(.pair tI tI)) (cf:=cf163) Tryz.lays162 rfl rfl rfl Tryz.isAgg180 Tryz.sizeOf180 Tryz.call162 Tryz.call163 c163 hm163 swo163
noncomputable def tabsS163:Tabs:=Tabs.addSo tabs163 ⟨162,163,(.pair tI tI),sortM (.pair tI tI) cf163⟩
theorem tabsS163OK:TabOK Tryz.prog tabsS163:=TabOK.addSo tabs163OK sort163
end Go.Proofs.YthfgccfaildmfaaGreatDoor
namespace Go.Proofs.YthfgccfaildmfaaGreatDoor
open Go Go.Abs Go.PE Go.Proofs
open Go.IntKind (wrap)
set_option maxRecDepth 100000
noncomputable section

/-! putlog/ring.Match -/
def as120:List Ty:=[(.pair tI tL),tL]
def rs120:List Ty:=[tQ,tI]
def an120:Ann:=.seq (.a) (.seq (.a) (.seq (.a) (.seq (.seq (.a) (.block (.loop ⟨[(6,.r (.c (.h 1))),(7,.r (.c (.d (.d tI))))],(ra 16 25 ([])),[],[.arr tP]⟩ [(.exit 0,⟨[(6,.r (.c (.h 1)))],(7::ra 16 25 ([])),[],[.arr tP]⟩)] (.a)))) (.a))))
def m120:((Int×List Int)×List Int)→Option ((List (Int×Int))×Int) :=
 fun x=>(m159 (x.1.1,x.1.2)).bind fun r=>(bif PE.notM (PE.notM r) then m160 x.2 else some false).bind fun r_1=>bif PE.orM (PE.notM r) (PE.notM r_1) then
 some ([],210) else (loopM (fun (s:Int×List (Int×Int))=>bif leM (wrap IntKind.i64 (s.1+lenM x.2)) (lenM x.1.2) then (sliceM x.1.2 s.1 (wrap
 IntKind.i64 (s.1+lenM x.2))).bind fun r_2=>(m161 (x.2,r_2)).bind fun r_3=>(appM (nat_lit 16) s.2 [(s.1,r_3)]).bind fun r=>some (Sum.inl (wrap
 IntKind.i64 (s.1+1),r)) else some (Sum.inr s.2)) (0,[])).bind fun o=>(sortM (Ty.pair (Ty.int IntKind.i64) (Ty.int IntKind.i64)) cf163 o).bind fun r =>
 some (r,0)
theorem c120:SpecOK Tryz.prog 120 ⟨as120,rs120,m120⟩ :=
 fc tabsS163OK [] an120 Tryz.f120 fun x=>by kernel_rfl
def tabs120:Tabs:=Tabs.add tabsS163 120 ⟨as120,rs120,m120⟩
theorem tabs120OK:TabOK Tryz.prog tabs120:=TabOK.add tabsS163OK c120 Tryz.call120

/-! putlog/ring.Dated -/
def as71:List Ty:=[(.pair tI tL),tL,tI]
def rs71:List Ty:=[tI,.bool,tI]
def an71:Ann:=.seq (.a) (.seq (.a) (.seq (.a) (.seq (.seq (.reg [0,1,3,7,15,31,63,127,255,511,1023,2047,255,4351,12543,28927,65535,255,262143,524287,1048575] (ra 0 21 ([])) (za 21 ([])) (.a)) (.a)) (.seq (.reg [0,1,0,4,12,28,63,127,255,511] (ra 0 10 ([])) (z0::.s [0] []::za 8 ([])) (.a)) (.a)))))
def m71:((Int×List Int)×List Int×Int)→Option (Int×Bool×Int) :=
 fun x=>(m120 ((x.1.1,x.1.2),x.2.1)).bind fun r=>(bif PE.notM (PE.notM (eqM r.2 0)) then m121 (x.2.2,1,60) else some false).bind fun r_1=>bif PE.orM
 (PE.notM (eqM r.2 0)) (PE.notM r_1) then some (0,false,210) else (bif PE.andM (PE.notM (eqM (lenM r.1) 0)) (ltM 1 (lenM r.1)) then idxM r.1 1 else some (0,
 0)).bind fun r_2=>(bif PE.andM (PE.notM (eqM (lenM r.1) 0)) (ltM 1 (lenM r.1)) then idxM r.1 0 else some (0,0)).bind fun r_3=>bif PE.orM (eqM (lenM r.1)
 0) (PE.andM (ltM 1 (lenM r.1)) (ltM (wrap IntKind.i64 (r_2.2-r_3.2)) x.2.2)) then some (0,false,0) else (idxM r.1 0).bind fun r=>some (wrap IntKind.i64
 (x.1.1+r.1),true,0)
theorem c71:SpecOK Tryz.prog 71 ⟨as71,rs71,m71⟩ :=
 fc tabs120OK [] an71 Tryz.f71 fun x=>by kernel_rfl
def tabs71:Tabs:=Tabs.add tabs120 71 ⟨as71,rs71,m71⟩
theorem tabs71OK:TabOK Tryz.prog tabs71:=TabOK.add tabs120OK c71 Tryz.call71

/-! putlog/ring.Felled -/
def as72:List Ty:=[tI,tI,.bool]
def rs72:List Ty:=[tP,tI]
def an72:Ann:=.seq (.a) (.seq (.a) (.seq (.a) (.seq (.join [(.norm,⟨[(8,.r (.c (.d (.d tI)))),(9,.r (.c (.d (.d tI))))],(ra 21 16 ([])),[],[]⟩)] (.a)) (.a))))
def m72:(Int×Int×Bool)→Option ((Int×Int)×Int) :=
 fun x=>(m121 (x.1,0,2100)).bind fun r=>(bif PE.notM (PE.notM r) then m121 (x.2.1,0,41) else some false).bind fun r_1=>bif PE.orM (PE.notM r) (PE.notM
 r_1) then some ((0,0),210) else (bif x.2.2 then some (x.1,x.1) else bif eqM x.2.1 0 then some (wrap IntKind.i64 (x.1+9),2100) else some (wrap
 IntKind.i64 (x.1+max 0 (wrap IntKind.i64 (9-x.2.1))),wrap IntKind.i64 (wrap IntKind.i64 (x.1+41)-x.2.1))).bind fun o=>bif ltM (min o.2 2100) o.1
 then some ((0,0),210) else some ((o.1,wrap IntKind.i64 (min o.2 2100+1)),0)
theorem c72:SpecOK Tryz.prog 72 ⟨as72,rs72,m72⟩ :=
 fc tabs71OK [] an72 Tryz.f72 fun x=>by kernel_rfl
def tabs72:Tabs:=Tabs.add tabs71 72 ⟨as72,rs72,m72⟩
theorem tabs72OK:TabOK Tryz.prog tabs72:=TabOK.add tabs71OK c72 Tryz.call72

/-! putlog/dating.Timber -/
def as32:List Ty:=[(.pair tI tL),tL,tI,tI,.bool,tI]
def rs32:List Ty:=[tC,tI]
def an32:Ann:=.a
def m32:((Int×List Int)×List Int×Int×Int×Bool×Int)→Option ((Int×Int×Int×Int×Int)×Int) :=
 fun x=>(m71 ((x.1.1,x.1.2),x.2.1,x.2.2.1)).bind fun r=>(bif PE.notM (PE.orM (PE.notM (eqM r.2.2 0)) (PE.notM r.2.1)) then m54 (x.2.2.2.2.2,0,7) else
 some false).bind fun r_1=>bif PE.orM (PE.orM (PE.notM (eqM r.2.2 0)) (PE.notM r.2.1)) (PE.notM r_1) then some ((0,0,0,0,0),220) else (m72 (wrap
 IntKind.i64 (wrap IntKind.i64 (r.1+lenM x.2.1)-1),x.2.2.2.1,x.2.2.2.2.1)).bind fun r=>bif PE.notM (eqM r.2 0) then some ((0,0,0,0,0),220) else
 some ((1,x.2.2.2.2.2,0,r.1.1,min (wrap IntKind.i64 (r.1.2+2)) 2101),0)
theorem c32:SpecOK Tryz.prog 32 ⟨as32,rs32,m32⟩ :=
 fc tabs72OK [] an32 Tryz.f32 fun x=>by kernel_rfl
def tabs32:Tabs:=Tabs.add tabs72 32 ⟨as32,rs32,m32⟩
theorem tabs32OK:TabOK Tryz.prog tabs32:=TabOK.add tabs72OK c32 Tryz.call32

/-! putlog/putlogref20.SameSpells -/
def as73:List Ty:=[tQ,tQ]
def rs73:List Ty:=[.bool]
def an73:Ann:=.seq (.a) (.seq (.a) (.seq (.seq (.a) (.block (.loop ⟨[(5,.r (.c (.d (.d tI))))],(ra 11 15 ([])),[],[]⟩ [(.exit 0,⟨[],(5::ra 11 15 ([])),[],[]⟩),(.ret,⟨[(4,.r (.c (.d (.d .bool))))],(5::ra 11 15 ([])),[],[]⟩)] (.seq (.a) (.seq (.block (.seq (.reg [0,0,3,7,0,0,48,112,255] (ra 0 9 ([])) (za 9 ([])) (.a)) (.a))) (.a)))))) (.a)))
def m73:((List (Int×Int))×List (Int×Int))→Option (Bool) :=
 fun x=>bif PE.notM (eqM (lenM x.1) (lenM x.2)) then some false else (loopM (fun (s:Int)=>bif ltM s (lenM x.1) then (idxM x.1 s).bind fun r=>(idxM x.2
 s).bind fun r_1=>bif PE.notM (PE.andM (eqM r.1 r_1.1) (eqM r.2 r_1.2)) then some (Sum.inr (Sum.inr false)) else some (Sum.inl (wrap IntKind.i64 (s+1)))
 else some (Sum.inr (Sum.inl ()))) 0).bind fun o=>Sum.elim (fun (t:Unit)=>some true) (fun (t:Bool)=>some t) o
theorem c73:SpecOK Tryz.prog 73 ⟨as73,rs73,m73⟩ :=
 fc tabs32OK [] an73 Tryz.f73 fun x=>by kernel_rfl
def tabs73:Tabs:=Tabs.add tabs32 73 ⟨as73,rs73,m73⟩
theorem tabs73OK:TabOK Tryz.prog tabs73:=TabOK.add tabs32OK c73 Tryz.call73

/-! putlog/putlogref22.SameSpells -/
def as33:List Ty:=[tQ,tQ]
def rs33:List Ty:=[.bool]
def an33:Ann:=.a
def m33:((List (Int×Int))×List (Int×Int))→Option (Bool) :=
 fun x=>(m73 (x.1,x.2)).bind fun r=>some r
theorem c33:SpecOK Tryz.prog 33 ⟨as33,rs33,m33⟩ :=
 fc tabs73OK [] an33 Tryz.f33 fun x=>by kernel_rfl
def tabs33:Tabs:=Tabs.add tabs73 33 ⟨as33,rs33,m33⟩
theorem tabs33OK:TabOK Tryz.prog tabs33:=TabOK.add tabs73OK c33 Tryz.call33

/-! putlog/putlogref09.Ints -/
def as74:List Ty:=[tL,tL]
def rs74:List Ty:=[.bool]
def an74:Ann:=.seq (.a) (.seq (.a) (.seq (.seq (.a) (.block (.loop ⟨[(5,.r (.c (.d (.d tI))))],(ra 11 15 ([])),[],[]⟩ [(.exit 0,⟨[],(5::ra 11 15 ([])),[],[]⟩),(.ret,⟨[(4,.r (.c (.d (.d .bool))))],(5::ra 11 15 ([])),[],[]⟩)] (.seq (.a) (.seq (.block (.seq (.reg [0,0,3,7,0,0,48,112,255] (ra 0 9 ([])) (za 9 ([])) (.a)) (.a))) (.a)))))) (.a)))
def m74:(List Int×List Int)→Option (Bool) :=
 fun x=>bif PE.notM (eqM (lenM x.1) (lenM x.2)) then some false else (loopM (fun (s:Int)=>bif ltM s (lenM x.1) then (idxM x.1 s).bind fun r=>(idxM x.2
 s).bind fun r_1=>bif PE.notM (eqM r r_1) then some (Sum.inr (Sum.inr false)) else some (Sum.inl (wrap IntKind.i64 (s+1))) else some (Sum.inr (Sum.inl
 ()))) 0).bind fun o=>Sum.elim (fun (t:Unit)=>some true) (fun (t:Bool)=>some t) o
theorem c74:SpecOK Tryz.prog 74 ⟨as74,rs74,m74⟩ :=
 fc tabs33OK [] an74 Tryz.f74 fun x=>by kernel_rfl
def tabs74:Tabs:=Tabs.add tabs33 74 ⟨as74,rs74,m74⟩
theorem tabs74OK:TabOK Tryz.prog tabs74:=TabOK.add tabs33OK c74 Tryz.call74

/-! putlog/putlogref22.Ints -/
def as34:List Ty:=[tL,tL]
def rs34:List Ty:=[.bool]
def an34:Ann:=.a
def m34:(List Int×List Int)→Option (Bool) :=
 fun x=>(m74 (x.1,x.2)).bind fun r=>some r
theorem c34:SpecOK Tryz.prog 34 ⟨as34,rs34,m34⟩ :=
 fc tabs74OK [] an34 Tryz.f34 fun x=>by kernel_rfl
def tabs34:Tabs:=Tabs.add tabs74 34 ⟨as34,rs34,m34⟩
theorem tabs34OK:TabOK Tryz.prog tabs34:=TabOK.add tabs74OK c34 Tryz.call34

/-! putlog/between.follow -/
def as105:List Ty:=[(.pair tI (.list tB)),tI,tL]
def rs105:List Ty:=[tI,tI,.bool]
def an105:Ann:=.seq (.a) (.seq (.a) (.seq (.seq (.a) (.block (.loop ⟨[(1,.r (.c (.d (.d tI)))),(9,.r (.c (.d (.d tI)))),(14,.r (.c (.d (.d tI))))],(11::ra 15 35 ([])),[],[]⟩ [(.exit 0,⟨[(1,.r (.c (.d (.d tI)))),(9,.r (.c (.d (.d tI))))],(11::ra 14 36 ([])),[],[]⟩),(.ret,⟨[(6,.r (.c (.d (.d tI)))),(7,.r (.c (.d (.d tI)))),(8,.r (.c (.d (.d .bool))))],(1::9::11::ra 14 36 ([])),[],[]⟩)] (.seq (.a) (.seq (.a) (.seq (.block (.seq (.a) (.seq (.a) (.reg [0,1,0,7,15,31,0,0,128,0,896,1920,3968,8128,63,32767] (ra 0 16 ([])) (z0::.s [0] []::za 6 (.s [0] []::za 7 ([]))) (.a))))) (.a))))))) (.a)))
def m105:((Int×List (Int×Int×Int))×Int×List Int)→Option (Int×Int×Bool) :=
 fun x=>(loopM (fun (s:Int×Int×Int)=>bif ltM s.2.2 (lenM x.2.2) then (idxM x.2.2 s.2.2).bind fun r=>(m98 (r,0,wrap IntKind.i64 (lenM x.1.2 -
 1))).bind fun r_1=>(bif PE.notM (PE.notM r_1) then idxM x.1.2 r else some (0,0,0)).bind fun r_2=>bif PE.orM (PE.notM r_1) (PE.notM (eqM r_2.1 s.1)) then
 some (Sum.inr (Sum.inr (0,0,false))) else (idxM x.1.2 r).bind fun r_3=>(idxM x.1.2 r).bind fun r=>some (Sum.inl (r_3.2.1,wrap IntKind.i64 (s.2.1 +
 r.2.2),wrap IntKind.i64 (s.2.2+1))) else some (Sum.inr (Sum.inl (s.1,s.2.1)))) (x.2.1,0,0)).bind fun o=>Sum.elim (fun (t:Int×Int)=>some (t.1,
 t.2,leM (lenM x.2.2) 60)) (fun (t:Int×Int×Bool)=>some (t.1,t.2.1,t.2.2)) o
theorem c105:SpecOK Tryz.prog 105 ⟨as105,rs105,m105⟩ :=
 fc tabs34OK [] an105 Tryz.f105 fun x=>by kernel_rfl
def tabs105:Tabs:=Tabs.add tabs34 105 ⟨as105,rs105,m105⟩
theorem tabs105OK:TabOK Tryz.prog tabs105:=TabOK.add tabs34OK c105 Tryz.call105

/-! putlog/between.CheckChain -/
def as66:List Ty:=[(.pair tI (.list tB)),tB,tL]
def rs66:List Ty:=[.bool]
def an66:Ann:=.a
def m66:((Int×List (Int×Int×Int))×(Int×Int×Int)×List Int)→Option (Bool) :=
 fun x=>(m64 (x.1.1,x.1.2)).bind fun r=>(bif PE.notM (PE.notM r) then m102 (x.1.1,x.2.1.1,x.2.1.2.1,x.2.1.2.2) else some false).bind fun r_1=>bif
 PE.orM (PE.notM r) (PE.notM r_1) then some false else (m105 ((x.1.1,x.1.2),x.2.1.1,x.2.2)).bind fun r=>some (PE.andM (PE.andM r.2.2 (eqM r.1 x.2.1.2.1))
 (leM r.2.1 x.2.1.2.2))
theorem c66:SpecOK Tryz.prog 66 ⟨as66,rs66,m66⟩ :=
 fc tabs105OK [] an66 Tryz.f66 fun x=>by kernel_rfl
def tabs66:Tabs:=Tabs.add tabs105 66 ⟨as66,rs66,m66⟩
theorem tabs66OK:TabOK Tryz.prog tabs66:=TabOK.add tabs105OK c66 Tryz.call66

/-! putlog/dating.Check -/
def as26:List Ty:=[tD,tI,tI,tI,tL]
def rs26:List Ty:=[.bool]
def an26:Ann:=.a
def m26:(((Int×List (Int×Int))×List (Int×Int×Int×Int×Int))×Int×Int×Int×List Int)→Option (Bool) :=
 fun x=>(m62 (((x.1.1.1,x.1.1.2),x.1.2),x.2.1,x.2.2.1,x.2.2.2.1)).bind fun r=>(bif r.2.2 then m66 ((r.1.1,r.1.2),(r.2.1.1,r.2.1.2.1,r.2.1.2.2),
 x.2.2.2.2) else some false).bind fun r_1=>some (PE.andM r.2.2 r_1)
theorem c26:SpecOK Tryz.prog 26 ⟨as26,rs26,m26⟩ :=
 fc tabs66OK [] an26 Tryz.f26 fun x=>by kernel_rfl
def tabs26:Tabs:=Tabs.add tabs66 26 ⟨as26,rs26,m26⟩
theorem tabs26OK:TabOK Tryz.prog tabs26:=TabOK.add tabs66OK c26 Tryz.call26

/-! putlog/dating.Allowed$1 -/
def as53:List Ty:=[tI]
def rs53:List Ty:=[.bool]
def an53:Ann:=.a
def m53:Int→Option (Bool) :=
 fun x=>(m54 (x,0,2100)).bind fun r=>some (PE.notM r)
theorem c53:SpecOK Tryz.prog 53 ⟨as53,rs53,m53⟩ :=
 fc tabs26OK [] an53 Tryz.f53 fun x=>by kernel_rfl
def tabs53:Tabs:=Tabs.add tabs26 53 ⟨as53,rs53,m53⟩
theorem tabs53OK:TabOK Tryz.prog tabs53:=TabOK.add tabs26OK c53 Tryz.call53

/-! putlog/between.Allowed$1 -/
def as97:List Ty:=[tI]
def rs97:List Ty:=[.bool]
def an97:Ann:=.a
def m97:Int→Option (Bool) :=
 fun x=>(m98 (x,(-1000000000000),1000000000000)).bind fun r=>some (PE.notM r)
theorem c97:SpecOK Tryz.prog 97 ⟨as97,rs97,m97⟩ :=
 fc tabs53OK [] an97 Tryz.f97 fun x=>by kernel_rfl
def tabs97:Tabs:=Tabs.add tabs53 97 ⟨as97,rs97,m97⟩
theorem tabs97OK:TabOK Tryz.prog tabs97:=TabOK.add tabs53OK c97 Tryz.call97

/-! putlog/between.Allowed -/
def as56:List Ty:=[(.pair tI (.list tB)),tL]
def rs56:List Ty:=[.bool]
def an56:Ann:=.seq (.a) (.seq (.a) (.seq (.seq (.reg [] [] [.s [0] [],z0,z0,z0,.s [1] [],z0,z0,.s [0] [],z0,z0,z0,.s [1] [],z0,.r,z0] (.call [] [(.norm,⟨[(19,.r (.c (.d (.d .bool))))],[],[],[]⟩)] (.seq (.a) (.seq (.reg [] [] [z0,z0,.r,z0,z0] (.call [] [(.norm,⟨[(7,.r (.c (.d (.d tI))))],[],[],[]⟩)] (.seq (.a) (.seq (.seq (.a) (.block (.loop ⟨[(8,.r (.c (.d (.d tI))))],(5::ra 9 8 (18::[])),[],[]⟩ [(.exit 0,⟨[],(5::ra 8 9 (18::[])),[],[]⟩),(.ret,⟨[(4,.r (.c (.d (.d tI))))],(5::ra 8 11 ([])),[],[]⟩)] (.a)))) (.a))) (.a))) (.a))) (.a))) (.a)) (.seq (.reg [] [] [z0,.s [0] [],z0,.r,z0,z0] (.call [] [] (.seq (.a) (.seq (.reg [] [] [z0,z0,.r,z0,z0] (.call [] [(.norm,⟨[(7,.r (.c (.d (.d tI))))],[],[],[]⟩)] (.seq (.a) (.seq (.seq (.a) (.block (.loop ⟨[(8,.r (.c (.d (.d tI))))],(5::ra 9 8 (18::[])),[],[]⟩ [(.exit 0,⟨[],(5::ra 8 9 (18::[])),[],[]⟩),(.ret,⟨[(4,.r (.c (.d (.d tI))))],(5::ra 8 11 ([])),[],[]⟩)] (.seq (.a) (.seq (.a) (.seq (.block (.seq (.a) (.seq (.reg [] [] [z0,z0,z0,z0,z0,.r] (.call [] [] (.seq (.a) (.seq (.reg [0,0,2,7,15,0,0,64,224,480,1023,0,2048,8191,16383] (ra 0 15 ([])) (.s [1] []::z0::.s [2] []::z0::z0::.s [1] []::z0::.s [2] []::za 4 (.s [2] []::z0::z0::[])) (.a)) (.a))) (.a))) (.a)))) (.a))))))) (.a))) (.a))) (.a))) (.a))) (.a))))
def m56:((Int×List (Int×Int×Int))×List Int)→Option (Bool) :=
 fun x=>(m64 (x.1.1,x.1.2)).bind fun r=>(bif PE.notM (PE.orM (PE.notM r) (PE.notM (eqM (lenM x.2) x.1.1))) then ((loopM (fun (s:Int)=>bif ltM s (lenM
 x.2) then (idxM x.2 s).bind fun r_1=>(m97 r_1).bind fun r=>bif r then some (Sum.inr (Sum.inr s)) else some (Sum.inl (wrap IntKind.i64 (s+1))) else some
 (Sum.inr (Sum.inl ()))) 0).bind fun o=>Sum.elim (fun (t:Unit)=>some (-1)) (fun (t:Int)=>some t) o).bind fun (ov:Int)=>some (leM 0 ov) else some
 false).bind fun (ov:Bool)=>bif PE.orM (PE.orM (PE.notM r) (PE.notM (eqM (lenM x.2) x.1.1))) ov then some false else ((loopM (fun (s:Int)=>bif ltM s
 (lenM x.1.2) then (idxM x.1.2 s).bind fun r_1=>(idxM x.2 r_1.2.1).bind fun r_2=>(idxM x.2 r_1.1).bind fun r=>bif ltM r_1.2.2 (wrap IntKind.i64 (r_2 -
 r)) then some (Sum.inr (Sum.inr s)) else some (Sum.inl (wrap IntKind.i64 (s+1))) else some (Sum.inr (Sum.inl ()))) 0).bind fun o=>Sum.elim (fun (t:Unit)
 => some (-1)) (fun (t:Int)=>some t) o).bind fun (ov:Int)=>some (PE.notM (leM 0 ov))
theorem c56:SpecOK Tryz.prog 56 ⟨as56,rs56,m56⟩ :=
 fc tabs97OK [] an56 Tryz.f56 fun x=>by kernel_rfl
def tabs56:Tabs:=Tabs.add tabs97 56 ⟨as56,rs56,m56⟩
theorem tabs56OK:TabOK Tryz.prog tabs56:=TabOK.add tabs97OK c56 Tryz.call56

/-! putlog/dating.Allowed -/
def as18:List Ty:=[tD,tL]
def rs18:List Ty:=[.bool]
def an18:Ann:=.seq (.a) (.seq (.a) (.seq (.a) (.seq (.reg [0,1,3,7,15,7,39,103,255,511,1023,2047,2047,8191,16383,32767,65535,131071,131071,393215,131071,1966079,4194303,8388607,16777215] (ra 0 25 ([])) [z0,z0,z0,z0,z0,z0,z0,.s [0] [],z0,z0,z0,z0,z0,.r,z0,z0,z0,.s [1] [],z0,.s [] [2],z0,.s [2] [3,2],.s [3] [],z0,z0] (.gs (.gq z0 (.gq z0 (.gq z0 (.gq z0 (.gq (.s [0] []) (.gq z0 (.gs (.gq z0 (.gq z0 (.gq (.r) (.call [] [] (.seq (.a) (.seq (.reg [] [] [z0,z0,.r,z0,z0] (.call [] [(.norm,⟨[(7,.r (.c (.d (.d tI))))],[],[],[]⟩)] (.seq (.a) (.seq (.seq (.a) (.block (.loop ⟨[(8,.r (.c (.d (.d tI))))],(5::ra 9 8 (18::[])),[],[]⟩ [(.exit 0,⟨[],(5::ra 8 9 (18::[])),[],[]⟩),(.ret,⟨[(4,.r (.c (.d (.d tI))))],(5::ra 8 11 ([])),[],[]⟩)] (.a)))) (.a))) (.a))) (.a))) (.gq z0 (.gs (.gq (.s [1] []) (.gq z0 (.gq (.s [] [2]) (.gq z0 (.gq (.s [2] [3,2]) (.gq (.s [3] []) (.a) (.a)) (.a)) (.a)) (.a)) (.a)) (.a)) (.gq (.s [1] []) (.a) (.gq z0 (.a) (.gq (.s [] [2]) (.a) (.gq z0 (.a) (.gq (.s [2] [3,2]) (.a) (.gq (.s [3] []) (.a) (.a)))))))) (.a))) (.a)) (.a)) (.a)) (.gq z0 (.a) (.gq z0 (.a) (.gq (.r) (.a) (.gq z0 (.a) (.gq (.s [1] []) (.a) (.gq z0 (.a) (.gq (.s [] [2]) (.a) (.gq z0 (.a) (.gq (.s [2] [3,2]) (.a) (.gq (.s [3] []) (.a) (.a)))))))))))) (.a)) (.a)) (.a)) (.a)) (.a)) (.a)) (.gq z0 (.a) (.gq z0 (.a) (.gq z0 (.a) (.gq z0 (.a) (.gq (.s [0] []) (.a) (.gq z0 (.a) (.gq z0 (.a) (.gq z0 (.a) (.gq (.r) (.a) (.gq z0 (.a) (.gq (.s [1] []) (.a) (.gq z0 (.a) (.gq (.s [] [2]) (.a) (.gq z0 (.a) (.gq (.s [2] [3,2]) (.a) (.gq (.s [3] []) (.a) (.a))))))))))))))))))) (.a))))
def m18:(((Int×List (Int×Int))×List (Int×Int×Int×Int×Int))×List Int)→Option (Bool) :=
 fun x=>(m24 ((x.1.1.1,x.1.1.2),x.1.2)).bind fun r=>bif eqM r.2 0 then bif PE.andM true (eqM (lenM x.2) x.1.1.1) then ((loopM (fun (s:Int)=>bif ltM s
 (lenM x.2) then (idxM x.2 s).bind fun r_1=>(m53 r_1).bind fun r=>bif r then some (Sum.inr (Sum.inr s)) else some (Sum.inl (wrap IntKind.i64 (s+1))) else
 some (Sum.inr (Sum.inl ()))) 0).bind fun o=>Sum.elim (fun (t:Unit)=>some (-1)) (fun (t:Int)=>some t) o).bind fun (ov:Int)=>bif PE.andM true
 (PE.notM (leM 0 ov)) then (mo57 x.2).bind fun r_1=>(appM (nat_lit 8) r_1 [0]).bind fun r_2=>(m56 ((r.1.1,r.1.2),r_2)).bind fun r=>some (PE.andM true
 r) else some false else some false else some false
theorem c18:SpecOK Tryz.prog 18 ⟨as18,rs18,m18⟩ :=
 fc (TabOK.drop tabs56OK [57]) [] an18 Tryz.f18 fun x=>by kernel_rfl
def tabs18:Tabs:=Tabs.add tabs56 18 ⟨as18,rs18,m18⟩
theorem tabs18OK:TabOK Tryz.prog tabs18:=TabOK.add tabs56OK c18 Tryz.call18

/-! putlog/putloglaw22.sane -/
def as10:List Ty:=[]
def rs10:List Ty:=[.bool]
def an10:Ann:=.seq (.a) (.seq (.a) (.seq (.reg [0,1,0,4,12,31,0,127] (ra 0 8 ([])) [z0,.s [0] [],z0,.s [0] [],z0,z0,.s [] [1],.s [1] [1]] (.a)) (.seq (.reg [0,1,0,0,8,28,0,64,252,511,0,2047] (ra 0 12 ([])) [z0,.s [0] [],z0,z0,.s [0] [],.s [] [2],z0,z0,.s [2] [3,2],z0,.s [] [4],.s [4,3] [4]] (.a)) (.a))))
def m10:Unit→Option (Bool) :=
 fun x=>(sliceM [(2,0,0,1320,0),(1,2,0,1300,1341),(5,0,1,5,200)] 0 2).bind fun r=>(appM (nat_lit 40) [] [(2,0,0,1320,0),(1,2,0,1300,
 1341),(5,0,1,5,200)]).bind fun r_1=>(appM (nat_lit 40) r_1 [(3,1,0,1324,0)]).bind fun r_2=>(m17 ((3,[(0,1),(1,2)]),[(2,0,0,1320,0),(1,
 2,0,1300,1341),(5,0,1,5,200)])).bind fun r_3=>(m17 ((3,[(0,1),(1,2)]),r)).bind fun r_4=>(m17 ((3,[(0,1),(1,2)]),r_2)).bind fun r_5 =>
 (m23 (((3,[(0,1),(1,2)]),[(2,0,0,1320,0),(1,2,0,1300,1341),(5,0,1,5,200)]),0,2,5)).bind fun r_6=>(m23 (((3,[(0,1),(1,2)]),[(2,0,
 0,1320,0),(1,2,0,1300,1341),(5,0,1,5,200)]),0,2,6)).bind fun r_7=>(m16 ((3,[(0,1),(1,2)]),r_2)).bind fun r_8=>(m16 ((3,[(0,1),(1,
 2)]),[(2,0,0,1320,0),(1,2,0,1300,1341),(5,0,1,5,200)])).bind fun r_9=>(m24 ((3,[(0,1),(1,2)]),[(2,0,0,1320,0),(1,2,0,1300,
 1341),(5,0,1,5,200)])).bind fun r_10=>(m31 ((800001,2),[],(0,0,0,0,0,1340,(-1)),2)).bind fun r_11=>(m32 ((1400,[10,12,11,15,14,13,
 16,18,12]),[11,15,14,13,16,18],1,0,true,1)).bind fun r_12=>(m32 ((1400,[10,12,11,15,14,13,16,18,12]),[11,15,14,13,16,18],40,0,
 true,9)).bind fun r_13=>bif PE.orM (PE.orM (PE.orM (PE.orM (PE.orM (PE.orM (PE.orM (PE.orM (PE.orM (PE.orM (PE.notM (eqM r_3.2 0)) (PE.notM (eqM r_4.2 0)))
 (PE.notM (eqM r_5.2 220))) (PE.notM (eqM r_10.2 0))) (PE.notM (eqM r_11.2 0))) (PE.notM (eqM r_12.2 0))) (PE.notM (eqM r_13.2 220))) (PE.notM r_6.2)) r_7.2)
 (PE.notM r_8.2)) r_9.2 then some false else (m33 (r_3.1,[(1320,1336),(1325,1341),(1325,1341)])).bind fun r_14=>(bif r_14 then m33 (r_4.1,[(1320,
 1341),(1320,1341),(1320,1341)]) else some false).bind fun r_15=>(m34 (r_6.1,[13,11])).bind fun r_16=>(bif r_16 then m26 (((3,[(0,1),(1,2)]),
 [(2,0,0,1320,0),(1,2,0,1300,1341),(5,0,1,5,200)]),0,2,5,r_6.1) else some false).bind fun r_17=>(bif PE.andM r_16 r_17 then m26 (((3,[(0,
 1),(1,2)]),[(2,0,0,1320,0),(1,2,0,1300,1341),(5,0,1,5,200)]),0,2,6,r_6.1) else some false).bind fun r_18=>(bif PE.andM (PE.andM r_16
 r_17) (PE.notM r_18) then m34 (r_8.1,[0,2,3]) else some false).bind fun r_19=>(bif PE.andM (PE.andM (PE.andM r_14 r_15) (PE.andM (PE.andM (PE.andM
 (PE.andM (PE.andM r_16 r_17) (PE.notM r_18)) r_19) (eqM r_10.1.1 4)) (eqM (lenM r_10.1.2) 14))) (PE.andM (PE.andM (eqM r_11.1.1 1) (PE.andM (eqM r_11.1.2.1 2)
 (PE.andM (eqM r_11.1.2.2.1 0) (PE.andM (eqM r_11.1.2.2.2.1 1340) (eqM r_11.1.2.2.2.2 1342))))) (PE.andM (eqM r_12.1.1 1) (PE.andM (eqM r_12.1.2.1 1) (PE.andM
 (eqM r_12.1.2.2.1 0) (PE.andM (eqM r_12.1.2.2.2.1 1407) (eqM r_12.1.2.2.2.2 1410)))))) then m20 ((3,[(0,1),(1,2)]),[(2,0,0,1320,0),(1,2,0,1300,
 1341),(5,0,1,5,200)]) else some false).bind fun r_20=>(bif PE.andM (PE.andM (PE.andM (PE.andM r_14 r_15) (PE.andM (PE.andM (PE.andM (PE.andM (PE.andM
 r_16 r_17) (PE.notM r_18)) r_19) (eqM r_10.1.1 4)) (eqM (lenM r_10.1.2) 14))) (PE.andM (PE.andM (eqM r_11.1.1 1) (PE.andM (eqM r_11.1.2.1 2) (PE.andM (eqM
 r_11.1.2.2.1 0) (PE.andM (eqM r_11.1.2.2.2.1 1340) (eqM r_11.1.2.2.2.2 1342))))) (PE.andM (eqM r_12.1.1 1) (PE.andM (eqM r_12.1.2.1 1) (PE.andM (eqM
 r_12.1.2.2.1 0) (PE.andM (eqM r_12.1.2.2.2.1 1407) (eqM r_12.1.2.2.2.2 1410))))))) r_20 then m20 ((9,[]),[]) else some false).bind fun r_21=>(bif PE.andM
 (PE.andM (PE.andM (PE.andM (PE.andM r_14 r_15) (PE.andM (PE.andM (PE.andM (PE.andM (PE.andM r_16 r_17) (PE.notM r_18)) r_19) (eqM r_10.1.1 4)) (eqM (lenM
 r_10.1.2) 14))) (PE.andM (PE.andM (eqM r_11.1.1 1) (PE.andM (eqM r_11.1.2.1 2) (PE.andM (eqM r_11.1.2.2.1 0) (PE.andM (eqM r_11.1.2.2.2.1 1340) (eqM
 r_11.1.2.2.2.2 1342))))) (PE.andM (eqM r_12.1.1 1) (PE.andM (eqM r_12.1.2.1 1) (PE.andM (eqM r_12.1.2.2.1 0) (PE.andM (eqM r_12.1.2.2.2.1 1407) (eqM
 r_12.1.2.2.2.2 1410))))))) r_20) (PE.notM r_21) then m18 (((3,[(0,1),(1,2)]),[(2,0,0,1320,0),(1,2,0,1300,1341),(5,0,1,5,200)]),[1320,
 1325,1340]) else some false).bind fun r_22=>(bif PE.andM (PE.andM (PE.andM (PE.andM (PE.andM (PE.andM r_14 r_15) (PE.andM (PE.andM (PE.andM (PE.andM
 (PE.andM r_16 r_17) (PE.notM r_18)) r_19) (eqM r_10.1.1 4)) (eqM (lenM r_10.1.2) 14))) (PE.andM (PE.andM (eqM r_11.1.1 1) (PE.andM (eqM r_11.1.2.1 2) (PE.andM
 (eqM r_11.1.2.2.1 0) (PE.andM (eqM r_11.1.2.2.2.1 1340) (eqM r_11.1.2.2.2.2 1342))))) (PE.andM (eqM r_12.1.1 1) (PE.andM (eqM r_12.1.2.1 1) (PE.andM (eqM
 r_12.1.2.2.1 0) (PE.andM (eqM r_12.1.2.2.2.1 1407) (eqM r_12.1.2.2.2.2 1410))))))) r_20) (PE.notM r_21)) r_22 then m18 (((3,[(0,1),(1,2)]),[(2,0,0,
 1320,0),(1,2,0,1300,1341),(5,0,1,5,200)]),[1320,1324,1340]) else some false).bind fun r=>some (PE.andM (PE.andM (PE.andM (PE.andM (PE.andM
 (PE.andM (PE.andM r_14 r_15) (PE.andM (PE.andM (PE.andM (PE.andM (PE.andM r_16 r_17) (PE.notM r_18)) r_19) (eqM r_10.1.1 4)) (eqM (lenM r_10.1.2) 14)))
 (PE.andM (PE.andM (eqM r_11.1.1 1) (PE.andM (eqM r_11.1.2.1 2) (PE.andM (eqM r_11.1.2.2.1 0) (PE.andM (eqM r_11.1.2.2.2.1 1340) (eqM r_11.1.2.2.2.2 1342)))))
 (PE.andM (eqM r_12.1.1 1) (PE.andM (eqM r_12.1.2.1 1) (PE.andM (eqM r_12.1.2.2.1 0) (PE.andM (eqM r_12.1.2.2.2.1 1407) (eqM r_12.1.2.2.2.2 1410))))))) r_20)
 (PE.notM r_21)) r_22) (PE.notM r))
theorem c10:SpecOK Tryz.prog 10 ⟨as10,rs10,m10⟩ :=
 fc tabs18OK [] an10 Tryz.f10 fun x=>by kernel_rfl
def tabs10:Tabs:=Tabs.add tabs18 10 ⟨as10,rs10,m10⟩
theorem tabs10OK:TabOK Tryz.prog tabs10:=TabOK.add tabs18OK c10 Tryz.call10

/-! putlog/putlogref15.pick -/
def as86:List Ty:=[tI,tI]
def rs86:List Ty:=[tI]
def an86:Ann:=.seq (.a) (.seq (.join [(.norm,⟨[(0,.r (.c (.d (.d tI))))],[5,6,7,8,9],[],[]⟩)] (.a)) (.a))
def m86:(Int×Int)→Option (Int) :=
 fun x=>(bif ltM x.1 0 then some (wrap IntKind.i64 (negM (wrap IntKind.i64 (x.1+1)))) else some x.1).bind fun o=>(remM o x.2).bind fun r=>some r
theorem c86:SpecOK Tryz.prog 86 ⟨as86,rs86,m86⟩ :=
 fc tabs10OK [] an86 Tryz.f86 fun x=>by kernel_rfl
def tabs86:Tabs:=Tabs.add tabs10 86 ⟨as86,rs86,m86⟩
theorem tabs86OK:TabOK Tryz.prog tabs86:=TabOK.add tabs10OK c86 Tryz.call86

/-! putlog/putlogref15.Made -/
def as75:List Ty:=[tI,tQ,tI]
def rs75:List Ty:=[tO]
def an75:Ann:=.seq (.a) (.seq (.reg [] [] [z0,z0,.r,.s [] [4],.s [4,3] [4]] (.call [] [] (.seq (.a) (.seq (.a) (.seq (.seq (.a) (.block (.loop ⟨[(6,.r (.c (.d (.d tI))))],(7::ra 11 45 ([])),[(2,.box [.d (.d tI),.h 3])],[.arr tP]⟩ [(.exit 0,⟨[],(6::7::ra 11 45 ([])),[(2,.box [.d (.d tI),.h 3])],[.arr tP]⟩)] (.seq (.a) (.seq (.block (.seq (.reg [0,0,3,7,15,0,32,127,255] (ra 0 9 ([])) (za 6 (.s [2] []::z0::z0::[])) (.a)) (.reg [0,1,0,0,8,0,0,96,224,480,0,1024,3072,8160,16376,0,32768,131064,262140,524284,1048575,2097151,4194303] (ra 0 23 ([])) (z0::.s [2] []::za 9 (.s [2] []::za 4 (.s [2] []::za 3 (.s [3] [4,3]::z0::.s [2,4] [2]::[])))) (.a)))) (.a)))))) (.a)))) (.a))) (.seq (.a) (.seq (.a) (.seq (.a) (.seq (.seq (.a) (.block (.loop ⟨[(10,.r (.c (.h 5))),(11,.r (.c (.d (.d tI))))],(ra 20 10 ([])),[],[.arr tI]⟩ [(.exit 0,⟨[(10,.r (.c (.h 5)))],(11::ra 20 10 ([])),[],[.arr tI]⟩)] (.a)))) (.seq (.block (.loop ⟨[(8,.r (.c (.h 6))),(9,.r (.c (.d (.d tI)))),(10,.r (.c (.d (.d tL))))],(12::ra 30 27 ([])),[(5,.gone)],[.arr tI]⟩ [(.exit 2,⟨[(8,.r (.c (.h 6)))],(9::10::12::ra 30 27 ([])),[(5,.gone)],[.arr tI]⟩)] (.seq (.a) (.block (.seq (.a) (.seq (.a) (.seq (.a) (.reg [0,0,0,7,0,0,32,112,255,511] (ra 0 10 ([])) (za 10 ([])) (.a))))))))) (.seq (.seq (.a) (.block (.loop ⟨[(13,.r (.c (.d (.d tI))))],(14::ra 57 32 ([])),[(3,.arr tP)],[]⟩ [(.exit 4,⟨[],(13::14::ra 57 32 ([])),[(3,.arr tP)],[]⟩)] (.seq (.a) (.seq (.join [(.norm,⟨[],(14::ra 64 25 ([])),[(3,.arr tP)],[]⟩)] (.block (.seq (.a) (.seq (.reg [0,0,2,7,15,0,0,64,224,480,1023] (ra 0 11 ([])) [z0,z0,.s [7] [],.s [6] [],.s [6] [],z0,z0,.s [7] [],.s [6] [],.s [6] [],z0] (.a)) (.a))))) (.a)))))) (.a))))))))
def m75:(Int×(List (Int×Int))×Int)→Option (Int×List (Int×Int)) :=
 fun x=>(m86 (x.1,9)).bind fun r=>(loopM (fun (s:Int×Int×List (Int×Int))=>bif PE.andM (PE.andM (ltM s.1 (lenM x.2.1)) (ltM s.1 20)) (ltM 1 s.2.1)
 then (idxM x.2.1 s.1).bind fun r_1=>(m86 (r_1.1,s.2.1)).bind fun r_2=>(idxM x.2.1 s.1).bind fun r_3=>(m86 (r_3.2,wrap IntKind.i64 (s.2.1-1))).bind
 fun r_4=>(remM (wrap IntKind.i64 (wrap IntKind.i64 (r_2+1)+r_4)) s.2.1).bind fun r_5=>(appM (nat_lit 16) s.2.2 [(r_2,r_5)]).bind fun r=>some
 (Sum.inl (wrap IntKind.i64 (s.1+1),s.2.1,r)) else some (Sum.inr (s.2.1,s.2.2))) (0,r,[])).bind fun o=>(m86 (x.2.2,40320)).bind fun r_1=>(loopM
 (fun (s:Int×List Int)=>bif ltM s.1 o.1 then (appM (nat_lit 8) s.2 [s.1]).bind fun r=>some (Sum.inl (wrap IntKind.i64 (s.1+1),r)) else some (Sum.inr
 s.2)) (0,[])).bind fun o_1=>(loopM (fun (s:Int×List Int×List Int)=>bif ltM 0 (lenM s.2.1) then (remM s.1 (lenM s.2.1)).bind fun r_2=>(divM
 IntKind.i64 s.1 (lenM s.2.1)).bind fun r_3=>(idxM s.2.1 r_2).bind fun r_4=>(appM (nat_lit 8) s.2.2 [r_4]).bind fun r_5=>((sameM r_2 r_2).bind fun (x :
 Unit)=>sliceM s.2.1 0 r_2).bind fun r_6=>(sliceM s.2.1 (wrap IntKind.i64 (r_2+1)) (lenM s.2.1)).bind fun r_7=>(appM (nat_lit 8) r_6 r_7).bind fun r =>
 some (Sum.inl (r_3,r,r_5)) else some (Sum.inr s.2.2)) (r_1,o_1,[])).bind fun o_2=>(loopM (fun (s:Int×List (Int×Int))=>bif ltM s.1 (lenM s.2)
 then ((chkM s.1 (lenM s.2)).bind fun r_2=>(idxM s.2 s.1).bind fun r_3=>(chkM r_3.1 (lenM o_2)).bind fun r_4=>(idxM o_2 r_3.1).bind fun r_5=>(chkM
 r_3.2 (lenM o_2)).bind fun r_6=>(idxM o_2 r_3.2).bind fun r_7=>bif ltM r_7 r_5 then (chkM s.1 (lenM s.2)).bind fun r_8=>(setM s.2 s.1 fun (x:Int ×
 Int)=>some (r_3.2,r_3.1)).bind fun r=>some r else some s.2).bind fun o=>some (Sum.inl (wrap IntKind.i64 (s.1+1),o)) else some (Sum.inr s.2)) (0,
 o.2)).bind fun o_3=>some (o.1,o_3)
theorem c75:SpecOK Tryz.prog 75 ⟨as75,rs75,m75⟩ :=
 fc (TabOK.drop tabs86OK [122]) [] an75 Tryz.f75 fun x=>by kernel_rfl
def tabs75:Tabs:=Tabs.add tabs86 75 ⟨as75,rs75,m75⟩
theorem tabs75OK:TabOK Tryz.prog tabs75:=TabOK.add tabs86OK c75 Tryz.call75

/-! putlog/putlogref22.Order -/
def as35:List Ty:=[(.pair tI (.pair tQ (.pair tI (.pair tI (.pair tL (.pair (.list tC) tB))))))]
def rs35:List Ty:=[tO]
def an35:Ann:=.a
def m35:(Int×(List (Int×Int))×Int×Int×List Int×(List (Int×Int×Int×Int×Int))×Int×Int×Int)→Option (Int×List (Int×Int)) :=
 fun x=>(m75 (x.1,x.2.1,x.2.2.1)).bind fun r=>some (r.1,r.2)
theorem c35:SpecOK Tryz.prog 35 ⟨as35,rs35,m35⟩ :=
 fc tabs75OK [] an35 Tryz.f35 fun x=>by kernel_rfl
def tabs35:Tabs:=Tabs.add tabs75 35 ⟨as35,rs35,m35⟩
theorem tabs35OK:TabOK Tryz.prog tabs35:=TabOK.add tabs75OK c35 Tryz.call35

/-! putlog/putlogref15.Formed -/
def as123:List Ty:=[tO]
def rs123:List Ty:=[.bool]
def an123:Ann:=.seq (.a) (.seq (.a) (.seq (.seq (.a) (.block (.loop ⟨[(3,.r (.c (.d (.d tI))))],(4::ra 19 41 ([])),[],[]⟩ [(.exit 0,⟨[],(3::4::ra 19 41 ([])),[],[]⟩),(.ret,⟨[(2,.r (.c (.d (.d .bool))))],(3::4::ra 19 41 ([])),[],[]⟩)] (.a)))) (.a)))
def m123:(Int×List (Int×Int))→Option (Bool) :=
 fun x=>bif PE.orM (PE.orM (ltM x.1 0) (ltM 8 x.1)) (ltM 28 (lenM x.2)) then some false else (loopM (fun (s:Int)=>bif ltM s (lenM x.2) then (idxM x.2
 s).bind fun r=>bif PE.orM (PE.orM (PE.orM (PE.orM (ltM r.1 0) (leM x.1 r.1)) (ltM r.2 0)) (leM x.1 r.2)) (eqM r.1 r.2) then some (Sum.inr (Sum.inr false))
 else some (Sum.inl (wrap IntKind.i64 (s+1))) else some (Sum.inr (Sum.inl ()))) 0).bind fun o=>Sum.elim (fun (t:Unit)=>some true) (fun (t:Bool) =>
 some t) o
theorem c123:SpecOK Tryz.prog 123 ⟨as123,rs123,m123⟩ :=
 fc tabs35OK [] an123 Tryz.f123 fun x=>by kernel_rfl
def tabs123:Tabs:=Tabs.add tabs35 123 ⟨as123,rs123,m123⟩
theorem tabs123OK:TabOK Tryz.prog tabs123:=TabOK.add tabs35OK c123 Tryz.call123

/-! putlog/putlogref15.pairs -/
def as124:List Ty:=[tO]
def rs124:List Ty:=[(.pair (.pair .bool (.pair .bool (.pair .bool (.pair .bool (.pair .bool (.pair .bool (.pair .bool .bool))))))) (.pair (.pair .bool (.pair .bool (.pair .bool (.pair .bool (.pair .bool (.pair .bool (.pair .bool .bool))))))) (.pair (.pair .bool (.pair .bool (.pair .bool (.pair .bool (.pair .bool (.pair .bool (.pair .bool .bool))))))) (.pair (.pair .bool (.pair .bool (.pair .bool (.pair .bool (.pair .bool (.pair .bool (.pair .bool .bool))))))) (.pair (.pair .bool (.pair .bool (.pair .bool (.pair .bool (.pair .bool (.pair .bool (.pair .bool .bool))))))) (.pair (.pair .bool (.pair .bool (.pair .bool (.pair .bool (.pair .bool (.pair .bool (.pair .bool .bool))))))) (.pair (.pair .bool (.pair .bool (.pair .bool (.pair .bool (.pair .bool (.pair .bool (.pair .bool .bool))))))) (.pair .bool (.pair .bool (.pair .bool (.pair .bool (.pair .bool (.pair .bool (.pair .bool .bool))))))))))))))]
def an124:Ann:=.seq (.a) (.seq (.a) (.seq (.seq (.a) (.block (.loop ⟨[(4,.r (.c (.d (.d tI))))],(ra 5 21 ([])),[(2,.flat 64 .bool)],[]⟩ [(.exit 0,⟨[],(ra 4 22 ([])),[(2,.flat 64 .bool)],[]⟩)] (.seq (.a) (.seq (.block (.reg [0,1,0,7,15,31,0,64,0,448,960,1984,63,8191,16383] (ra 0 15 ([])) (z0::.s [0] []::za 5 (.s [0] []::za 4 (.s [2] []::.s [2] []::.s [2] [2]::[]))) (.a))) (.a)))))) (.a)))
def m124:(Int×List (Int×Int))→Option ((Bool×Bool×Bool×Bool×Bool×Bool×Bool×Bool)×(Bool×Bool×Bool×Bool×Bool×Bool×Bool×Bool)×(Bool×Bool×Bool×Bool×Bool×Bool×Bool×Bool)×(Bool×Bool×Bool×Bool×Bool×Bool×Bool×Bool)×(Bool×Bool×Bool×Bool×Bool×Bool×Bool×Bool)×(Bool×Bool×Bool×Bool×Bool×Bool×Bool×Bool)×(Bool×Bool×Bool×Bool×Bool×Bool×Bool×Bool)×Bool×Bool×Bool×Bool×Bool×Bool×Bool×Bool) :=
 fun x=>(loopM (fun (s:Int×List Bool)=>bif ltM s.1 (lenM x.2) then (idxM x.2 s.1).bind fun r=>(idxM x.2 s.1).bind fun r_1=>(chkM r.1 ↑(nat_lit
 8)).bind fun r_2=>(chkM r_1.2 ↑(nat_lit 8)).bind fun r_3=>(setM s.2 (↑(nat_lit 0)+r.1*↑(nat_lit 8)+r_1.2*↑(nat_lit 1)) fun (x:Bool)=>some
 true).bind fun r=>some (Sum.inl (wrap IntKind.i64 (s.1+1),r)) else some (Sum.inr s.2)) (0,[false,false,false,false,false,false,false,false,
 false,false,false,false,false,false,false,false,false,false,false,false,false,false,false,false,false,false,false,false,false,false,
 false,false,false,false,false,false,false,false,false,false,false,false,false,false,false,false,false,false,false,false,false,false,
 false,false,false,false,false,false,false,false,false,false,false,false])).bind fun o=>some ((nthD o (nat_lit 0) false,nthD o (nat_lit 1) false,
 nthD o (nat_lit 2) false,nthD o (nat_lit 3) false,nthD o (nat_lit 4) false,nthD o (nat_lit 5) false,nthD o (nat_lit 6) false,nthD o (nat_lit 7) false),
 (nthD o (nat_lit 8) false,nthD o (nat_lit 9) false,nthD o (nat_lit 10) false,nthD o (nat_lit 11) false,nthD o (nat_lit 12) false,nthD o (nat_lit 13)
 false,nthD o (nat_lit 14) false,nthD o (nat_lit 15) false),(nthD o (nat_lit 16) false,nthD o (nat_lit 17) false,nthD o (nat_lit 18) false,nthD o
 (nat_lit 19) false,nthD o (nat_lit 20) false,nthD o (nat_lit 21) false,nthD o (nat_lit 22) false,nthD o (nat_lit 23) false),(nthD o (nat_lit 24) false,
 nthD o (nat_lit 25) false,nthD o (nat_lit 26) false,nthD o (nat_lit 27) false,nthD o (nat_lit 28) false,nthD o (nat_lit 29) false,nthD o (nat_lit 30)
 false,nthD o (nat_lit 31) false),(nthD o (nat_lit 32) false,nthD o (nat_lit 33) false,nthD o (nat_lit 34) false,nthD o (nat_lit 35) false,nthD o
 (nat_lit 36) false,nthD o (nat_lit 37) false,nthD o (nat_lit 38) false,nthD o (nat_lit 39) false),(nthD o (nat_lit 40) false,nthD o (nat_lit 41) false,
 nthD o (nat_lit 42) false,nthD o (nat_lit 43) false,nthD o (nat_lit 44) false,nthD o (nat_lit 45) false,nthD o (nat_lit 46) false,nthD o (nat_lit 47)
 false),(nthD o (nat_lit 48) false,nthD o (nat_lit 49) false,nthD o (nat_lit 50) false,nthD o (nat_lit 51) false,nthD o (nat_lit 52) false,nthD o
 (nat_lit 53) false,nthD o (nat_lit 54) false,nthD o (nat_lit 55) false),nthD o (nat_lit 56) false,nthD o (nat_lit 57) false,nthD o (nat_lit 58) false,
 nthD o (nat_lit 59) false,nthD o (nat_lit 60) false,nthD o (nat_lit 61) false,nthD o (nat_lit 62) false,nthD o (nat_lit 63) false)
theorem c124:SpecOK Tryz.prog 124 ⟨as124,rs124,m124⟩ :=
 fc tabs123OK [] an124 Tryz.f124 fun x=>by kernel_rfl
def tabs124:Tabs:=Tabs.add tabs123 124 ⟨as124,rs124,m124⟩
theorem tabs124OK:TabOK Tryz.prog tabs124:=TabOK.add tabs123OK c124 Tryz.call124

/-! putlog/putlogref15.before -/
def as77:List Ty:=[tO]
def rs77:List Ty:=[(.pair (.pair .bool (.pair .bool (.pair .bool (.pair .bool (.pair .bool (.pair .bool (.pair .bool .bool))))))) (.pair (.pair .bool (.pair .bool (.pair .bool (.pair .bool (.pair .bool (.pair .bool (.pair .bool .bool))))))) (.pair (.pair .bool (.pair .bool (.pair .bool (.pair .bool (.pair .bool (.pair .bool (.pair .bool .bool))))))) (.pair (.pair .bool (.pair .bool (.pair .bool (.pair .bool (.pair .bool (.pair .bool (.pair .bool .bool))))))) (.pair (.pair .bool (.pair .bool (.pair .bool (.pair .bool (.pair .bool (.pair .bool (.pair .bool .bool))))))) (.pair (.pair .bool (.pair .bool (.pair .bool (.pair .bool (.pair .bool (.pair .bool (.pair .bool .bool))))))) (.pair (.pair .bool (.pair .bool (.pair .bool (.pair .bool (.pair .bool (.pair .bool (.pair .bool .bool))))))) (.pair .bool (.pair .bool (.pair .bool (.pair .bool (.pair .bool (.pair .bool (.pair .bool .bool))))))))))))))]
def an77:Ann:=.seq (.a) (.seq (.a) (.seq (.seq (.a) (.block (.loop ⟨[(4,.r (.c (.d (.d tI))))],(5::6::ra 9 34 ([])),[(2,.flat 64 .bool)],[]⟩ [(.exit 0,⟨[],(4::5::6::ra 9 34 ([])),[(2,.flat 64 .bool)],[]⟩)] (.seq (.a) (.seq (.block (.seq (.a) (.block (.loop ⟨[(5,.r (.c (.d (.d tI))))],(6::ra 15 28 ([])),[(2,.flat 64 .bool)],[]⟩ [(.exit 2,⟨[],(5::6::ra 15 28 ([])),[(2,.flat 64 .bool)],[]⟩)] (.seq (.a) (.seq (.block (.seq (.a) (.block (.loop ⟨[(6,.r (.c (.d (.d tI))))],(ra 21 22 ([])),[(2,.flat 64 .bool)],[]⟩ [(.exit 4,⟨[],(6::ra 21 22 ([])),[(2,.flat 64 .bool)],[]⟩)] (.seq (.a) (.seq (.join [(.norm,⟨[],(ra 27 16 ([])),[(2,.flat 64 .bool)],[]⟩)] (.a)) (.a))))))) (.a))))))) (.a)))))) (.a)))
def m77:(Int×List (Int×Int))→Option ((Bool×Bool×Bool×Bool×Bool×Bool×Bool×Bool)×(Bool×Bool×Bool×Bool×Bool×Bool×Bool×Bool)×(Bool×Bool×Bool×Bool×Bool×Bool×Bool×Bool)×(Bool×Bool×Bool×Bool×Bool×Bool×Bool×Bool)×(Bool×Bool×Bool×Bool×Bool×Bool×Bool×Bool)×(Bool×Bool×Bool×Bool×Bool×Bool×Bool×Bool)×(Bool×Bool×Bool×Bool×Bool×Bool×Bool×Bool)×Bool×Bool×Bool×Bool×Bool×Bool×Bool×Bool) :=
 fun x=>(m124 (x.1,x.2)).bind fun r=>(loopM (fun (s:Int×List Bool)=>bif ltM s.1 x.1 then (loopM (fun (s_1:Int×List Bool)=>bif ltM s_1.1 x.1 then
 (loopM (fun (s_2:Int×List Bool)=>bif ltM s_2.1 x.1 then ((chkM s_1.1 ↑(nat_lit 8)).bind fun r_1=>(chkM s.1 ↑(nat_lit 8)).bind fun r_2=>(idxM s_2.2
 (↑(nat_lit 0)+s_1.1*↑(nat_lit 8)+s.1*↑(nat_lit 1))).bind fun r_3=>(bif r_3 then chkM s.1 ↑(nat_lit 8) else some ()).bind fun r_4=>(bif r_3 then
 chkM s_2.1 ↑(nat_lit 8) else some ()).bind fun r_5=>(bif r_3 then idxM s_2.2 (↑(nat_lit 0)+s.1*↑(nat_lit 8)+s_2.1*↑(nat_lit 1)) else some
 false).bind fun r_6=>bif PE.andM r_3 r_6 then (chkM s_1.1 ↑(nat_lit 8)).bind fun r_7=>(chkM s_2.1 ↑(nat_lit 8)).bind fun r_8=>(setM s_2.2 (↑(nat_lit 0)
 + s_1.1*↑(nat_lit 8)+s_2.1*↑(nat_lit 1)) fun (x:Bool)=>some true).bind fun r=>some r else some s_2.2).bind fun o=>some (Sum.inl (wrap
 IntKind.i64 (s_2.1+1),o)) else some (Sum.inr s_2.2)) (0,s_1.2)).bind fun o=>some (Sum.inl (wrap IntKind.i64 (s_1.1+1),o)) else some (Sum.inr s_1.2))
 (0,s.2)).bind fun o=>some (Sum.inl (wrap IntKind.i64 (s.1+1),o)) else some (Sum.inr s.2)) (0,[r.1.1,r.1.2.1,r.1.2.2.1,r.1.2.2.2.1,r.1.2.2.2.2.1,
 r.1.2.2.2.2.2.1,r.1.2.2.2.2.2.2.1,r.1.2.2.2.2.2.2.2,r.2.1.1,r.2.1.2.1,r.2.1.2.2.1,r.2.1.2.2.2.1,r.2.1.2.2.2.2.1,r.2.1.2.2.2.2.2.1,
 r.2.1.2.2.2.2.2.2.1,r.2.1.2.2.2.2.2.2.2,r.2.2.1.1,r.2.2.1.2.1,r.2.2.1.2.2.1,r.2.2.1.2.2.2.1,r.2.2.1.2.2.2.2.1,r.2.2.1.2.2.2.2.2.1,
 r.2.2.1.2.2.2.2.2.2.1,r.2.2.1.2.2.2.2.2.2.2,r.2.2.2.1.1,r.2.2.2.1.2.1,r.2.2.2.1.2.2.1,r.2.2.2.1.2.2.2.1,r.2.2.2.1.2.2.2.2.1,r.2.2.2.1.2.2.2.2.2.1,
 r.2.2.2.1.2.2.2.2.2.2.1,r.2.2.2.1.2.2.2.2.2.2.2,r.2.2.2.2.1.1,r.2.2.2.2.1.2.1,r.2.2.2.2.1.2.2.1,r.2.2.2.2.1.2.2.2.1,r.2.2.2.2.1.2.2.2.2.1,
 r.2.2.2.2.1.2.2.2.2.2.1,r.2.2.2.2.1.2.2.2.2.2.2.1,r.2.2.2.2.1.2.2.2.2.2.2.2,r.2.2.2.2.2.1.1,r.2.2.2.2.2.1.2.1,r.2.2.2.2.2.1.2.2.1,r.2.2.2.2.2.1.2.2.2.1,
 r.2.2.2.2.2.1.2.2.2.2.1,r.2.2.2.2.2.1.2.2.2.2.2.1,r.2.2.2.2.2.1.2.2.2.2.2.2.1,r.2.2.2.2.2.1.2.2.2.2.2.2.2,r.2.2.2.2.2.2.1.1,r.2.2.2.2.2.2.1.2.1,
 r.2.2.2.2.2.2.1.2.2.1,r.2.2.2.2.2.2.1.2.2.2.1,r.2.2.2.2.2.2.1.2.2.2.2.1,r.2.2.2.2.2.2.1.2.2.2.2.2.1,r.2.2.2.2.2.2.1.2.2.2.2.2.2.1,
 r.2.2.2.2.2.2.1.2.2.2.2.2.2.2,r.2.2.2.2.2.2.2.1,r.2.2.2.2.2.2.2.2.1,r.2.2.2.2.2.2.2.2.2.1,r.2.2.2.2.2.2.2.2.2.2.1,r.2.2.2.2.2.2.2.2.2.2.2.1,
 r.2.2.2.2.2.2.2.2.2.2.2.2.1,r.2.2.2.2.2.2.2.2.2.2.2.2.2.1,r.2.2.2.2.2.2.2.2.2.2.2.2.2.2])).bind fun o=>some ((nthD o (nat_lit 0) false,nthD o (nat_lit 1)
 false,nthD o (nat_lit 2) false,nthD o (nat_lit 3) false,nthD o (nat_lit 4) false,nthD o (nat_lit 5) false,nthD o (nat_lit 6) false,nthD o (nat_lit 7)
 false),(nthD o (nat_lit 8) false,nthD o (nat_lit 9) false,nthD o (nat_lit 10) false,nthD o (nat_lit 11) false,nthD o (nat_lit 12) false,nthD o (nat_lit
 13) false,nthD o (nat_lit 14) false,nthD o (nat_lit 15) false),(nthD o (nat_lit 16) false,nthD o (nat_lit 17) false,nthD o (nat_lit 18) false,nthD o
 (nat_lit 19) false,nthD o (nat_lit 20) false,nthD o (nat_lit 21) false,nthD o (nat_lit 22) false,nthD o (nat_lit 23) false),(nthD o (nat_lit 24) false,
 nthD o (nat_lit 25) false,nthD o (nat_lit 26) false,nthD o (nat_lit 27) false,nthD o (nat_lit 28) false,nthD o (nat_lit 29) false,nthD o (nat_lit 30)
 false,nthD o (nat_lit 31) false),(nthD o (nat_lit 32) false,nthD o (nat_lit 33) false,nthD o (nat_lit 34) false,nthD o (nat_lit 35) false,nthD o
 (nat_lit 36) false,nthD o (nat_lit 37) false,nthD o (nat_lit 38) false,nthD o (nat_lit 39) false),(nthD o (nat_lit 40) false,nthD o (nat_lit 41) false,
 nthD o (nat_lit 42) false,nthD o (nat_lit 43) false,nthD o (nat_lit 44) false,nthD o (nat_lit 45) false,nthD o (nat_lit 46) false,nthD o (nat_lit 47)
 false),(nthD o (nat_lit 48) false,nthD o (nat_lit 49) false,nthD o (nat_lit 50) false,nthD o (nat_lit 51) false,nthD o (nat_lit 52) false,nthD o
 (nat_lit 53) false,nthD o (nat_lit 54) false,nthD o (nat_lit 55) false),nthD o (nat_lit 56) false,nthD o (nat_lit 57) false,nthD o (nat_lit 58) false,
 nthD o (nat_lit 59) false,nthD o (nat_lit 60) false,nthD o (nat_lit 61) false,nthD o (nat_lit 62) false,nthD o (nat_lit 63) false)
theorem c77:SpecOK Tryz.prog 77 ⟨as77,rs77,m77⟩ :=
 fc tabs124OK [] an77 Tryz.f77 fun x=>by kernel_rfl
def tabs77:Tabs:=Tabs.add tabs124 77 ⟨as77,rs77,m77⟩
theorem tabs77OK:TabOK Tryz.prog tabs77:=TabOK.add tabs124OK c77 Tryz.call77

/-! putlog/putlogref15.Valid -/
def as76:List Ty:=[tO]
def rs76:List Ty:=[.bool]
def an76:Ann:=.seq (.a) (.seq (.a) (.seq (.a) (.seq (.seq (.a) (.block (.loop ⟨[(4,.r (.c (.d (.d tI))))],(ra 10 11 ([])),[],[]⟩ [(.exit 0,⟨[],(4::ra 10 11 ([])),[],[]⟩),(.ret,⟨[(2,.r (.c (.d (.d .bool))))],(4::ra 10 11 ([])),[],[]⟩)] (.a)))) (.a))))
def m76:(Int×List (Int×Int))→Option (Bool) :=
 fun x=>(m123 (x.1,x.2)).bind fun r=>bif PE.notM r then some false else (m77 (x.1,x.2)).bind fun r_1=>(loopM (fun (s:Int)=>bif ltM s x.1 then (chkM s
 ↑(nat_lit 8)).bind fun r_2=>(chkM s ↑(nat_lit 8)).bind fun r_3=>(idxM [r_1.1.1,r_1.1.2.1,r_1.1.2.2.1,r_1.1.2.2.2.1,r_1.1.2.2.2.2.1,r_1.1.2.2.2.2.2.1,
 r_1.1.2.2.2.2.2.2.1,r_1.1.2.2.2.2.2.2.2,r_1.2.1.1,r_1.2.1.2.1,r_1.2.1.2.2.1,r_1.2.1.2.2.2.1,r_1.2.1.2.2.2.2.1,r_1.2.1.2.2.2.2.2.1,
 r_1.2.1.2.2.2.2.2.2.1,r_1.2.1.2.2.2.2.2.2.2,r_1.2.2.1.1,r_1.2.2.1.2.1,r_1.2.2.1.2.2.1,r_1.2.2.1.2.2.2.1,r_1.2.2.1.2.2.2.2.1,r_1.2.2.1.2.2.2.2.2.1,
 r_1.2.2.1.2.2.2.2.2.2.1,r_1.2.2.1.2.2.2.2.2.2.2,r_1.2.2.2.1.1,r_1.2.2.2.1.2.1,r_1.2.2.2.1.2.2.1,r_1.2.2.2.1.2.2.2.1,r_1.2.2.2.1.2.2.2.2.1,
 r_1.2.2.2.1.2.2.2.2.2.1,r_1.2.2.2.1.2.2.2.2.2.2.1,r_1.2.2.2.1.2.2.2.2.2.2.2,r_1.2.2.2.2.1.1,r_1.2.2.2.2.1.2.1,r_1.2.2.2.2.1.2.2.1,r_1.2.2.2.2.1.2.2.2.1,
 r_1.2.2.2.2.1.2.2.2.2.1,r_1.2.2.2.2.1.2.2.2.2.2.1,r_1.2.2.2.2.1.2.2.2.2.2.2.1,r_1.2.2.2.2.1.2.2.2.2.2.2.2,r_1.2.2.2.2.2.1.1,r_1.2.2.2.2.2.1.2.1,
 r_1.2.2.2.2.2.1.2.2.1,r_1.2.2.2.2.2.1.2.2.2.1,r_1.2.2.2.2.2.1.2.2.2.2.1,r_1.2.2.2.2.2.1.2.2.2.2.2.1,r_1.2.2.2.2.2.1.2.2.2.2.2.2.1,
 r_1.2.2.2.2.2.1.2.2.2.2.2.2.2,r_1.2.2.2.2.2.2.1.1,r_1.2.2.2.2.2.2.1.2.1,r_1.2.2.2.2.2.2.1.2.2.1,r_1.2.2.2.2.2.2.1.2.2.2.1,r_1.2.2.2.2.2.2.1.2.2.2.2.1,
 r_1.2.2.2.2.2.2.1.2.2.2.2.2.1,r_1.2.2.2.2.2.2.1.2.2.2.2.2.2.1,r_1.2.2.2.2.2.2.1.2.2.2.2.2.2.2,r_1.2.2.2.2.2.2.2.1,r_1.2.2.2.2.2.2.2.2.1,
 r_1.2.2.2.2.2.2.2.2.2.1,r_1.2.2.2.2.2.2.2.2.2.2.1,r_1.2.2.2.2.2.2.2.2.2.2.2.1,r_1.2.2.2.2.2.2.2.2.2.2.2.2.1,r_1.2.2.2.2.2.2.2.2.2.2.2.2.2.1,
 r_1.2.2.2.2.2.2.2.2.2.2.2.2.2.2] (↑(nat_lit 0)+s*↑(nat_lit 8)+s*↑(nat_lit 1))).bind fun r=>bif r then some (Sum.inr (Sum.inr false)) else some
 (Sum.inl (wrap IntKind.i64 (s+1))) else some (Sum.inr (Sum.inl ()))) 0).bind fun o=>Sum.elim (fun (t:Unit)=>some true) (fun (t:Bool)=>some t) o
theorem c76:SpecOK Tryz.prog 76 ⟨as76,rs76,m76⟩ :=
 fc tabs77OK [] an76 Tryz.f76 fun x=>by kernel_rfl
def tabs76:Tabs:=Tabs.add tabs77 76 ⟨as76,rs76,m76⟩
theorem tabs76OK:TabOK Tryz.prog tabs76:=TabOK.add tabs77OK c76 Tryz.call76
end
end Go.Proofs.YthfgccfaildmfaaGreatDoor
namespace Go.Proofs.YthfgccfaildmfaaGreatDoor
open Go Go.Abs Go.PE Go.Proofs
open Go.IntKind (wrap)
set_option maxRecDepth 100000
noncomputable section

/-! putlog/putlogref15.has -/
def as78:List Ty:=[tL,tI]
def rs78:List Ty:=[.bool]
def an78:Ann:=.seq (.a) (.seq (.seq (.a) (.block (.loop ⟨[(5,.r (.c (.d (.d tI))))],(ra 6 12 ([])),[],[]⟩ [(.exit 0,⟨[],(ra 5 13 ([])),[],[]⟩),(.ret,⟨[(4,.r (.c (.d (.d .bool))))],(ra 5 13 ([])),[],[]⟩)] (.a)))) (.a))
def m78:(List Int×Int)→Option (Bool) :=
 fun x=>(loopM (fun (s:Int)=>bif ltM s (lenM x.1) then (idxM x.1 s).bind fun r=>bif eqM r x.2 then some (Sum.inr (Sum.inr true)) else some (Sum.inl (wrap
 IntKind.i64 (s+1))) else some (Sum.inr (Sum.inl ()))) 0).bind fun o=>Sum.elim (fun (t:Unit)=>some false) (fun (t:Bool)=>some t) o
theorem c78:SpecOK Tryz.prog 78 ⟨as78,rs78,m78⟩ :=
 fc tabs76OK [] an78 Tryz.f78 fun x=>by kernel_rfl
def tabs78:Tabs:=Tabs.add tabs76 78 ⟨as78,rs78,m78⟩
theorem tabs78OK:TabOK Tryz.prog tabs78:=TabOK.add tabs76OK c78 Tryz.call78

/-! putlog/putlogref15.Line -/
def as39:List Ty:=[tO]
def rs39:List Ty:=[tL,tI]
def an39:Ann:=.seq (.a) (.seq (.a) (.seq (.a) (.seq (.a) (.seq (.block (.loop ⟨[(5,.r (.c (.h 2)))],(6::7::8::ra 14 37 ([])),[],[.arr tI]⟩ [(.exit 0,⟨[(5,.r (.c (.h 2)))],(6::7::8::ra 14 37 ([])),[],[.arr tI]⟩)] (.seq (.a) (.block (.seq (.a) (.block (.loop ⟨[(6,.r (.c (.d (.d tI))))],(7::8::ra 19 28 ([])),[],[]⟩ [(.exit 2,⟨[(5,.r (.c (.h 3)))],(6::7::8::ra 19 32 ([])),[(2,.gone)],[.arr tI]⟩)] (.seq (.a) (.seq (.block (.seq (.a) (.seq (.seq (.a) (.block (.loop ⟨[(7,.r (.c (.d (.d .bool)))),(8,.r (.c (.d (.d tI))))],(ra 29 17 ([])),[],[]⟩ [(.exit 4,⟨[(7,.r (.c (.d (.d .bool))))],(8::ra 29 17 ([])),[],[]⟩)] (.seq (.a) (.seq (.join [(.norm,⟨[(7,.r (.c (.d (.d .bool))))],(ra 35 11 ([])),[],[]⟩)] (.a)) (.a)))))) (.a)))) (.a)))))))))) (.a)))))
def m39:(Int×List (Int×Int))→Option (List Int×Int) :=
 fun x=>(m76 (x.1,x.2)).bind fun r=>bif PE.notM r then some ([],150) else (m77 (x.1,x.2)).bind fun r_1=>(loopM (fun (s:List Int)=>bif ltM (lenM s)
 x.1 then (loopM (fun (s_1:Int)=>bif ltM s_1 x.1 then (m78 (s,s_1)).bind fun r_2=>(loopM (fun (s_2:Bool×Int)=>bif ltM s_2.2 x.1 then ((chkM s_2.2
 ↑(nat_lit 8)).bind fun r_3=>(chkM s_1 ↑(nat_lit 8)).bind fun r_4=>(idxM [r_1.1.1,r_1.1.2.1,r_1.1.2.2.1,r_1.1.2.2.2.1,r_1.1.2.2.2.2.1,
 r_1.1.2.2.2.2.2.1,r_1.1.2.2.2.2.2.2.1,r_1.1.2.2.2.2.2.2.2,r_1.2.1.1,r_1.2.1.2.1,r_1.2.1.2.2.1,r_1.2.1.2.2.2.1,r_1.2.1.2.2.2.2.1,r_1.2.1.2.2.2.2.2.1,
 r_1.2.1.2.2.2.2.2.2.1,r_1.2.1.2.2.2.2.2.2.2,r_1.2.2.1.1,r_1.2.2.1.2.1,r_1.2.2.1.2.2.1,r_1.2.2.1.2.2.2.1,r_1.2.2.1.2.2.2.2.1,r_1.2.2.1.2.2.2.2.2.1,
 r_1.2.2.1.2.2.2.2.2.2.1,r_1.2.2.1.2.2.2.2.2.2.2,r_1.2.2.2.1.1,r_1.2.2.2.1.2.1,r_1.2.2.2.1.2.2.1,r_1.2.2.2.1.2.2.2.1,r_1.2.2.2.1.2.2.2.2.1,
 r_1.2.2.2.1.2.2.2.2.2.1,r_1.2.2.2.1.2.2.2.2.2.2.1,r_1.2.2.2.1.2.2.2.2.2.2.2,r_1.2.2.2.2.1.1,r_1.2.2.2.2.1.2.1,r_1.2.2.2.2.1.2.2.1,r_1.2.2.2.2.1.2.2.2.1,
 r_1.2.2.2.2.1.2.2.2.2.1,r_1.2.2.2.2.1.2.2.2.2.2.1,r_1.2.2.2.2.1.2.2.2.2.2.2.1,r_1.2.2.2.2.1.2.2.2.2.2.2.2,r_1.2.2.2.2.2.1.1,r_1.2.2.2.2.2.1.2.1,
 r_1.2.2.2.2.2.1.2.2.1,r_1.2.2.2.2.2.1.2.2.2.1,r_1.2.2.2.2.2.1.2.2.2.2.1,r_1.2.2.2.2.2.1.2.2.2.2.2.1,r_1.2.2.2.2.2.1.2.2.2.2.2.2.1,
 r_1.2.2.2.2.2.1.2.2.2.2.2.2.2,r_1.2.2.2.2.2.2.1.1,r_1.2.2.2.2.2.2.1.2.1,r_1.2.2.2.2.2.2.1.2.2.1,r_1.2.2.2.2.2.2.1.2.2.2.1,r_1.2.2.2.2.2.2.1.2.2.2.2.1,
 r_1.2.2.2.2.2.2.1.2.2.2.2.2.1,r_1.2.2.2.2.2.2.1.2.2.2.2.2.2.1,r_1.2.2.2.2.2.2.1.2.2.2.2.2.2.2,r_1.2.2.2.2.2.2.2.1,r_1.2.2.2.2.2.2.2.2.1,
 r_1.2.2.2.2.2.2.2.2.2.1,r_1.2.2.2.2.2.2.2.2.2.2.1,r_1.2.2.2.2.2.2.2.2.2.2.2.1,r_1.2.2.2.2.2.2.2.2.2.2.2.2.1,r_1.2.2.2.2.2.2.2.2.2.2.2.2.2.1,
 r_1.2.2.2.2.2.2.2.2.2.2.2.2.2.2] (↑(nat_lit 0)+s_2.2*↑(nat_lit 8)+s_1*↑(nat_lit 1))).bind fun r_5=>(bif r_5 then m78 (s,s_2.2) else some
 false).bind fun r=>bif PE.andM r_5 (PE.notM r) then some false else some s_2.1).bind fun o=>some (Sum.inl (o,wrap IntKind.i64 (s_2.2+1))) else some
 (Sum.inr s_2.1)) (PE.notM r_2,0)).bind fun o=>bif o then (appM (nat_lit 8) s [s_1]).bind fun r=>some (Sum.inr r) else some (Sum.inl (wrap IntKind.i64
 (s_1+1))) else some (Sum.inr s)) 0).bind fun o=>some (Sum.inl o) else some (Sum.inr s)) []).bind fun o=>some (o,0)
theorem c39:SpecOK Tryz.prog 39 ⟨as39,rs39,m39⟩ :=
 fc tabs78OK [] an39 Tryz.f39 fun x=>by kernel_rfl
def tabs39:Tabs:=Tabs.add tabs78 39 ⟨as39,rs39,m39⟩
theorem tabs39OK:TabOK Tryz.prog tabs39:=TabOK.add tabs78OK c39 Tryz.call39

/-! putlog/putlogref22.pick -/
def as37:List Ty:=[tI,tI]
def rs37:List Ty:=[tI]
def an37:Ann:=.seq (.a) (.seq (.join [(.norm,⟨[(0,.r (.c (.d (.d tI))))],[5,6,7,8,9],[],[]⟩)] (.a)) (.a))
def m37:(Int×Int)→Option (Int) :=
 fun x=>(bif ltM x.1 0 then some (wrap IntKind.i64 (negM (wrap IntKind.i64 (x.1+1)))) else some x.1).bind fun o=>(remM o x.2).bind fun r=>some r
theorem c37:SpecOK Tryz.prog 37 ⟨as37,rs37,m37⟩ :=
 fc tabs39OK [] an37 Tryz.f37 fun x=>by kernel_rfl
def tabs37:Tabs:=Tabs.add tabs39 37 ⟨as37,rs37,m37⟩
theorem tabs37OK:TabOK Tryz.prog tabs37:=TabOK.add tabs39OK c37 Tryz.call37

/-! putlog/putlogref15.Before -/
def as40:List Ty:=[tO,tI,tI]
def rs40:List Ty:=[.bool]
def an40:Ann:=.a
def m40:((Int×List (Int×Int))×Int×Int)→Option (Bool) :=
 fun x=>(m76 (x.1.1,x.1.2)).bind fun r=>bif PE.orM (PE.orM (PE.orM (PE.orM (PE.notM r) (ltM x.2.1 0)) (leM x.1.1 x.2.1)) (ltM x.2.2 0)) (leM x.1.1 x.2.2)
 then some false else (m77 (x.1.1,x.1.2)).bind fun r_1=>(sliceM [r_1.1.1,r_1.1.2.1,r_1.1.2.2.1,r_1.1.2.2.2.1,r_1.1.2.2.2.2.1,r_1.1.2.2.2.2.2.1,
 r_1.1.2.2.2.2.2.2.1,r_1.1.2.2.2.2.2.2.2,r_1.2.1.1,r_1.2.1.2.1,r_1.2.1.2.2.1,r_1.2.1.2.2.2.1,r_1.2.1.2.2.2.2.1,r_1.2.1.2.2.2.2.2.1,
 r_1.2.1.2.2.2.2.2.2.1,r_1.2.1.2.2.2.2.2.2.2,r_1.2.2.1.1,r_1.2.2.1.2.1,r_1.2.2.1.2.2.1,r_1.2.2.1.2.2.2.1,r_1.2.2.1.2.2.2.2.1,r_1.2.2.1.2.2.2.2.2.1,
 r_1.2.2.1.2.2.2.2.2.2.1,r_1.2.2.1.2.2.2.2.2.2.2,r_1.2.2.2.1.1,r_1.2.2.2.1.2.1,r_1.2.2.2.1.2.2.1,r_1.2.2.2.1.2.2.2.1,r_1.2.2.2.1.2.2.2.2.1,
 r_1.2.2.2.1.2.2.2.2.2.1,r_1.2.2.2.1.2.2.2.2.2.2.1,r_1.2.2.2.1.2.2.2.2.2.2.2,r_1.2.2.2.2.1.1,r_1.2.2.2.2.1.2.1,r_1.2.2.2.2.1.2.2.1,r_1.2.2.2.2.1.2.2.2.1,
 r_1.2.2.2.2.1.2.2.2.2.1,r_1.2.2.2.2.1.2.2.2.2.2.1,r_1.2.2.2.2.1.2.2.2.2.2.2.1,r_1.2.2.2.2.1.2.2.2.2.2.2.2,r_1.2.2.2.2.2.1.1,r_1.2.2.2.2.2.1.2.1,
 r_1.2.2.2.2.2.1.2.2.1,r_1.2.2.2.2.2.1.2.2.2.1,r_1.2.2.2.2.2.1.2.2.2.2.1,r_1.2.2.2.2.2.1.2.2.2.2.2.1,r_1.2.2.2.2.2.1.2.2.2.2.2.2.1,
 r_1.2.2.2.2.2.1.2.2.2.2.2.2.2,r_1.2.2.2.2.2.2.1.1,r_1.2.2.2.2.2.2.1.2.1,r_1.2.2.2.2.2.2.1.2.2.1,r_1.2.2.2.2.2.2.1.2.2.2.1,r_1.2.2.2.2.2.2.1.2.2.2.2.1,
 r_1.2.2.2.2.2.2.1.2.2.2.2.2.1,r_1.2.2.2.2.2.2.1.2.2.2.2.2.2.1,r_1.2.2.2.2.2.2.1.2.2.2.2.2.2.2,r_1.2.2.2.2.2.2.2.1,r_1.2.2.2.2.2.2.2.2.1,
 r_1.2.2.2.2.2.2.2.2.2.1,r_1.2.2.2.2.2.2.2.2.2.2.1,r_1.2.2.2.2.2.2.2.2.2.2.2.1,r_1.2.2.2.2.2.2.2.2.2.2.2.2.1,r_1.2.2.2.2.2.2.2.2.2.2.2.2.2.1,
 r_1.2.2.2.2.2.2.2.2.2.2.2.2.2.2] (x.2.1*↑(nat_lit 8)) (x.2.1*↑(nat_lit 8)+↑(nat_lit 8))).bind fun r_2=>(idxM [nthD r_2 (nat_lit 0) false,nthD r_2
 (nat_lit 1) false,nthD r_2 (nat_lit 2) false,nthD r_2 (nat_lit 3) false,nthD r_2 (nat_lit 4) false,nthD r_2 (nat_lit 5) false,nthD r_2 (nat_lit 6) false,
 nthD r_2 (nat_lit 7) false] x.2.2).bind fun r=>some r
theorem c40:SpecOK Tryz.prog 40 ⟨as40,rs40,m40⟩ :=
 fc tabs37OK [] an40 Tryz.f40 fun x=>by kernel_rfl
def tabs40:Tabs:=Tabs.add tabs37 40 ⟨as40,rs40,m40⟩
theorem tabs40OK:TabOK Tryz.prog tabs40:=TabOK.add tabs37OK c40 Tryz.call40

/-! putlog/putlogref22.Hidden -/
def as12:List Ty:=[(.pair tI (.pair tQ (.pair tI (.pair tI (.pair tL (.pair (.list tC) tB))))))]
def rs12:List Ty:=[tL]
def an12:Ann:=.seq (.a) (.seq (.a) (.seq (.a) (.seq (.a) (.seq (.seq (.a) (.block (.loop ⟨[(7,.r (.c (.d (.d tI))))],(8::9::ra 20 54 ([])),[(2,.arr tI)],[]⟩ [(.exit 0,⟨[],(7::8::9::ra 20 54 ([])),[(2,.arr tI)],[]⟩)] (.seq (.a) (.seq (.block (.seq (.a) (.seq (.seq (.a) (.block (.loop ⟨[(8,.r (.c (.d (.d tI)))),(9,.r (.c (.d (.d tI))))],(ra 30 24 ([])),[],[]⟩ [(.exit 2,⟨[(8,.r (.c (.d (.d tI))))],(9::ra 30 24 ([])),[],[]⟩)] (.seq (.a) (.seq (.join [(.norm,⟨[(8,.r (.c (.d (.d tI))))],(ra 35 19 ([])),[],[]⟩)] (.block (.seq (.reg [0,0,0,6,14,0,0,96,224,511] (ra 0 10 ([])) (.s [1] []::za 9 ([])) (.a)) (.a)))) (.a)))))) (.seq (.join [(.norm,⟨[(8,.r (.c (.d (.d tI))))],(ra 54 13 ([])),[],[]⟩)] (.a)) (.a))))) (.a)))))) (.a)))))
def m12:(Int×(List (Int×Int))×Int×Int×List Int×(List (Int×Int×Int×Int×Int))×Int×Int×Int)→Option (List Int) :=
 fun x=>(m35 (x.1,x.2.1,x.2.2.1,x.2.2.2.1,x.2.2.2.2.1,x.2.2.2.2.2.1,x.2.2.2.2.2.2.1,x.2.2.2.2.2.2.2.1,x.2.2.2.2.2.2.2.2)).bind fun r=>(m39 (r.1,
 r.2)).bind fun r_1=>(mkM r.1 r.1 (nat_lit 8) 0).bind fun r_2=>(loopM (fun (s:Int×List Int)=>bif ltM s.1 (lenM r_1.1) then (m37 (x.2.2.2.1,
 400)).bind fun r_3=>(loopM (fun (s_1:Int×Int)=>bif ltM s_1.2 s.1 then ((idxM r_1.1 s_1.2).bind fun r_4=>(idxM r_1.1 s.1).bind fun r_5=>(m40 ((r.1,
 r.2),r_4,r_5)).bind fun r_6=>bif r_6 then (idxM r_1.1 s_1.2).bind fun r_7=>(chkM r_7 (lenM s.2)).bind fun r_8=>(idxM s.2 r_7).bind fun r=>some (max
 s_1.1 r) else some s_1.1).bind fun o=>some (Sum.inl (o,wrap IntKind.i64 (s_1.2+1))) else some (Sum.inr s_1.1)) (wrap IntKind.i64 (1000+r_3),0)).bind
 fun o=>(bif ltM s.1 (lenM x.2.2.2.2.1) then (idxM x.2.2.2.2.1 s.1).bind fun r_4=>(m37 (r_4,40)).bind fun r=>some (wrap IntKind.i64 (o+r)) else some
 o).bind fun o_1=>(idxM r_1.1 s.1).bind fun r_4=>(chkM r_4 (lenM s.2)).bind fun r_5=>(setM s.2 r_4 fun (x:Int)=>some o_1).bind fun r=>some (Sum.inl
 (wrap IntKind.i64 (s.1+1),r)) else some (Sum.inr s.2)) (0,r_2)).bind fun o=>some o
theorem c12:SpecOK Tryz.prog 12 ⟨as12,rs12,m12⟩ :=
 fc tabs40OK [] an12 Tryz.f12 fun x=>by kernel_rfl
def tabs12:Tabs:=Tabs.add tabs40 12 ⟨as12,rs12,m12⟩
theorem tabs12OK:TabOK Tryz.prog tabs12:=TabOK.add tabs40OK c12 Tryz.call12

/-! putlog/putlogref22.in -/
def as38:List Ty:=[tI,tI,tI]
def rs38:List Ty:=[.bool]
def an38:Ann:=.a
def m38:(Int×Int×Int)→Option (Bool) :=
 fun x=>some (PE.andM (leM x.2.1 x.1) (leM x.1 x.2.2))
theorem c38:SpecOK Tryz.prog 38 ⟨as38,rs38,m38⟩ :=
 fc tabs12OK [] an38 Tryz.f38 fun x=>by kernel_rfl
def tabs38:Tabs:=Tabs.add tabs12 38 ⟨as38,rs38,m38⟩
theorem tabs38OK:TabOK Tryz.prog tabs38:=TabOK.add tabs12OK c38 Tryz.call38

/-! putlog/putlogref22.Clue -/
def as22:List Ty:=[tL,tC]
def rs22:List Ty:=[tC]
def an22:Ann:=.seq (.a) (.seq (.reg [0,1,3,7,0,16,0,64,247,511,0,2047] (ra 0 12 ([])) (z0::.s [0] []::za 3 (.s [0] []::za 4 (.s [] [2]::.s [2] [2]::[]))) (.a)) (.seq (.a) (.seq (.a) (.seq (.a) (.seq (.join [(.norm,⟨[],(ra 35 8 ([])),[(2,.box [.d (.d tI),.d (.d tI),.d (.d tI),.d (.d tI),.d (.d tI)])],[]⟩)] (.a)) (.seq (.join [(.norm,⟨[],(ra 43 9 ([])),[(2,.box [.d (.d tI),.d (.d tI),.d (.d tI),.d (.d tI),.d (.d tI)])],[]⟩)] (.a)) (.seq (.join [(.norm,⟨[],(ra 52 57 ([])),[(2,.box [.d (.d tI),.d (.d tI),.d (.d tI),.d (.d tI),.d (.d tI)])],[]⟩)] (.a)) (.a))))))))
def m22:(List Int×Int×Int×Int×Int×Int)→Option (Int×Int×Int×Int×Int) :=
 fun x=>(m37 (x.2.1,5)).bind fun r=>(m37 (x.2.2.1,lenM x.1)).bind fun r_1=>(m37 (x.2.2.2.1,lenM x.1)).bind fun r_2=>(idxM x.1 r_1).bind fun r_3 =>
 (idxM x.1 r_2).bind fun r_4=>(bif PE.andM (eqM (wrap IntKind.i64 (1+r)) 4) (PE.notM (eqM (wrap IntKind.i64 (r_4-r_3)) 0)) then some (5,r_1,0,0,0)
 else some (wrap IntKind.i64 (1+r),r_1,0,0,0)).bind fun o=>((bif eqM o.1 5 then m38 (wrap IntKind.i64 (r_4-r_3),(-200),200) else some false).bind
 fun r=>bif PE.andM (eqM o.1 5) (PE.notM r) then some (2,o.2.1,o.2.2.1,o.2.2.2.1,o.2.2.2.2) else some (o.1,o.2.1,o.2.2.1,o.2.2.2.1,o.2.2.2.2)).bind
 fun o_1=>(bif eqM o_1.1 1 then (m37 (x.2.2.2.2.1,30)).bind fun r_5=>(m37 (x.2.2.2.2.2,30)).bind fun r=>some (o_1.1,o_1.2.1,o_1.2.2.1,max (wrap
 IntKind.i64 (r_3-r_5)) 0,min (wrap IntKind.i64 (wrap IntKind.i64 (r_3+1)+r)) 2101) else bif eqM o_1.1 2 then (m37 (x.2.2.2.2.1,50)).bind fun r=>some
 (o_1.1,o_1.2.1,o_1.2.2.1,max (wrap IntKind.i64 (r_3-r)) 0,o_1.2.2.2.2) else bif eqM o_1.1 3 then (m37 (x.2.2.2.2.1,50)).bind fun r=>some (o_1.1,
 o_1.2.1,o_1.2.2.1,min (wrap IntKind.i64 (r_3+r)) 2100,o_1.2.2.2.2) else bif eqM o_1.1 4 then some (o_1.1,o_1.2.1,r_2,o_1.2.2.2.1,o_1.2.2.2.2) else
 (m37 (x.2.2.2.2.1,30)).bind fun r_5=>(m37 (x.2.2.2.2.2,30)).bind fun r=>some (o_1.1,o_1.2.1,r_2,max (wrap IntKind.i64 (wrap IntKind.i64 (r_4-r_3) -
 r_5)) (-200),min (wrap IntKind.i64 (wrap IntKind.i64 (r_4-r_3)+r)) 200)).bind fun o=>some (o.1,o.2.1,o.2.2.1,o.2.2.2.1,o.2.2.2.2)
theorem c22:SpecOK Tryz.prog 22 ⟨as22,rs22,m22⟩ :=
 fc tabs38OK [] an22 Tryz.f22 fun x=>by kernel_rfl
def tabs22:Tabs:=Tabs.add tabs38 22 ⟨as22,rs22,m22⟩
theorem tabs22OK:TabOK Tryz.prog tabs22:=TabOK.add tabs38OK c22 Tryz.call22

/-! putlog/putlogref22.Misses -/
def as36:List Ty:=[(.pair tI (.pair tQ (.pair tI (.pair tI (.pair tL (.pair (.list tC) tB))))))]
def rs36:List Ty:=[.bool]
def an36:Ann:=.a
def m36:(Int×(List (Int×Int))×Int×Int×List Int×(List (Int×Int×Int×Int×Int))×Int×Int×Int)→Option (Bool) :=
 fun x=>(m37 (x.2.2.2.2.2.2.1,3)).bind fun r=>some (eqM r 2)
theorem c36:SpecOK Tryz.prog 36 ⟨as36,rs36,m36⟩ :=
 fc tabs22OK [] an36 Tryz.f36 fun x=>by kernel_rfl
def tabs36:Tabs:=Tabs.add tabs22 36 ⟨as36,rs36,m36⟩
theorem tabs36OK:TabOK Tryz.prog tabs36:=TabOK.add tabs22OK c36 Tryz.call36

/-! putlog/putlogref22.Made -/
def as11:List Ty:=[(.pair tI (.pair tQ (.pair tI (.pair tI (.pair tL (.pair (.list tC) tB))))))]
def rs11:List Ty:=[tD]
def an11:Ann:=.seq (.a) (.seq (.a) (.seq (.a) (.seq (.seq (.a) (.block (.loop ⟨[(5,.r (.c (.d (.d tI))))],(ra 13 28 ([])),[(2,.box [.d (.d tI),.d (.d tQ),.h 3])],[.arr tC]⟩ [(.exit 0,⟨[],(5::ra 13 28 ([])),[(2,.box [.d (.d tI),.d (.d tQ),.h 3])],[.arr tC]⟩)] (.seq (.a) (.seq (.block (.reg [0,1,0,0,8,0,56,120,252,508,1023,2047,4095] (ra 0 13 ([])) (z0::.s [2] []::z0::z0::.s [0] []::za 5 (.s [3] [4,3]::z0::.s [2,4] [2]::[])) (.a))) (.a)))))) (.seq (.join [(.norm,⟨[],(6::7::ra 41 111 ([])),[(3,.arr tC)],[]⟩)] (.seq (.a) (.cond (.seq (.reg [0,1,0,4,12,0,32,96,252,511,1023] (ra 0 11 ([])) [z0,.s [2] [],z0,z0,.s [0] [],z0,.s [2] [],.s [3] [],z0,.s [3] [],z0] (.a)) (.a)) (.a)))) (.a)))))
def m11:(Int×(List (Int×Int))×Int×Int×List Int×(List (Int×Int×Int×Int×Int))×Int×Int×Int)→Option ((Int×List (Int×Int))×List (Int×Int×Int×Int×Int)) :=
 fun x=>(m35 (x.1,x.2.1,x.2.2.1,x.2.2.2.1,x.2.2.2.2.1,x.2.2.2.2.2.1,x.2.2.2.2.2.2.1,x.2.2.2.2.2.2.2.1,x.2.2.2.2.2.2.2.2)).bind fun r=>(m12 (x.1,
 x.2.1,x.2.2.1,x.2.2.2.1,x.2.2.2.2.1,x.2.2.2.2.2.1,x.2.2.2.2.2.2.1,x.2.2.2.2.2.2.2.1,x.2.2.2.2.2.2.2.2)).bind fun r_1=>(loopM (fun (s:Int×Int ×
 List (Int×Int)×List (Int×Int×Int×Int×Int))=>bif PE.andM (PE.andM (ltM s.1 (lenM x.2.2.2.2.2.1)) (ltM s.1 10)) (ltM 0 (lenM r_1)) then (idxM
 x.2.2.2.2.2.1 s.1).bind fun r_2=>(m22 (r_1,r_2.1,r_2.2.1,r_2.2.2.1,r_2.2.2.2.1,r_2.2.2.2.2)).bind fun r_3=>(appM (nat_lit 40) s.2.2.2 [(r_3.1,
 r_3.2.1,r_3.2.2.1,r_3.2.2.2.1,r_3.2.2.2.2)]).bind fun r=>some (Sum.inl (wrap IntKind.i64 (s.1+1),s.2.1,s.2.2.1,r)) else some (Sum.inr (s.2.1,
 s.2.2.1,s.2.2.2))) (0,r.1,r.2,[])).bind fun o=>((m36 (x.1,x.2.1,x.2.2.1,x.2.2.2.1,x.2.2.2.2.1,x.2.2.2.2.2.1,x.2.2.2.2.2.2.1,x.2.2.2.2.2.2.2.1,
 x.2.2.2.2.2.2.2.2)).bind fun r_2=>bif PE.andM r_2 (ltM 0 (lenM o.2.2)) then (m37 (x.2.2.2.2.2.2.2.1,lenM o.2.2)).bind fun r_3=>(chkM r_3 (lenM
 o.2.2)).bind fun r_4=>(m37 (x.2.2.2.2.2.2.2.2,60)).bind fun r_5=>((idxM o.2.2 r_3).bind fun (x:Int×Int×Int×Int×Int)=>some x.1).bind fun r_6
 => bif eqM r_6 1 then ((idxM o.2.2 r_3).bind fun (x:Int×Int×Int×Int×Int)=>some x.2.2.2.1).bind fun r_7=>(setM o.2.2 r_3 fun (x:Int×Int×Int
 × Int×Int)=>some (x.1,x.2.1,x.2.2.1,wrap IntKind.i64 (r_7+wrap IntKind.i64 (r_5-30)),x.2.2.2.2)).bind fun r_8=>((idxM r_8 r_3).bind fun (x:Int
 × Int×Int×Int×Int)=>some x.2.2.2.2).bind fun r_9=>(setM r_8 r_3 fun (x:Int×Int×Int×Int×Int)=>some (x.1,x.2.1,x.2.2.1,x.2.2.2.1,wrap
 IntKind.i64 (r_9+wrap IntKind.i64 (r_5-30)))).bind fun r=>some r else bif eqM r_6 2 then ((idxM o.2.2 r_3).bind fun (x:Int×Int×Int×Int×Int) =>
 some x.2.2.2.1).bind fun r_7=>(setM o.2.2 r_3 fun (x:Int×Int×Int×Int×Int)=>some (x.1,x.2.1,x.2.2.1,wrap IntKind.i64 (r_7+max (wrap
 IntKind.i64 (r_5-30)) (wrap IntKind.i64 (negM (wrap IntKind.i64 (r_5-30))))),x.2.2.2.2)).bind fun r=>some r else bif eqM r_6 3 then ((idxM o.2.2
 r_3).bind fun (x:Int×Int×Int×Int×Int)=>some x.2.2.2.1).bind fun r_7=>(setM o.2.2 r_3 fun (x:Int×Int×Int×Int×Int)=>some (x.1,x.2.1,
 x.2.2.1,wrap IntKind.i64 (r_7-max (wrap IntKind.i64 (r_5-30)) (wrap IntKind.i64 (negM (wrap IntKind.i64 (r_5-30))))),x.2.2.2.2)).bind fun r=>some r
 else bif eqM r_6 5 then ((idxM o.2.2 r_3).bind fun (x:Int×Int×Int×Int×Int)=>some x.2.2.2.1).bind fun r_7=>(m38 (wrap IntKind.i64 (r_7+wrap
 IntKind.i64 (r_5-30)),(-200),200)).bind fun r_8=>(bif r_8 then (idxM o.2.2 r_3).bind fun (x:Int×Int×Int×Int×Int)=>some x.2.2.2.2 else some
 0).bind fun r_9=>(bif r_8 then m38 (wrap IntKind.i64 (r_9+wrap IntKind.i64 (r_5-30)),(-200),200) else some false).bind fun r_10=>bif PE.andM r_8
 r_10 then ((idxM o.2.2 r_3).bind fun (x:Int×Int×Int×Int×Int)=>some x.2.2.2.1).bind fun r_11=>(setM o.2.2 r_3 fun (x:Int×Int×Int×Int ×
 Int)=>some (x.1,x.2.1,x.2.2.1,wrap IntKind.i64 (r_11+wrap IntKind.i64 (r_5-30)),x.2.2.2.2)).bind fun r_12=>((idxM r_12 r_3).bind fun (x:Int ×
 Int×Int×Int×Int)=>some x.2.2.2.2).bind fun r_13=>(setM r_12 r_3 fun (x:Int×Int×Int×Int×Int)=>some (x.1,x.2.1,x.2.2.1,x.2.2.2.1,wrap
 IntKind.i64 (r_13+wrap IntKind.i64 (r_5-30)))).bind fun r=>some r else some o.2.2 else some o.2.2 else some o.2.2).bind fun o_1=>some ((o.1,o.2.1),
 o_1)
theorem c11:SpecOK Tryz.prog 11 ⟨as11,rs11,m11⟩ :=
 fc tabs36OK [] an11 Tryz.f11 fun x=>by kernel_rfl
def tabs11:Tabs:=Tabs.add tabs36 11 ⟨as11,rs11,m11⟩
theorem tabs11OK:TabOK Tryz.prog tabs11:=TabOK.add tabs36OK c11 Tryz.call11

/-! putlog/putloglaw22.pick -/
def as13:List Ty:=[tI,tI]
def rs13:List Ty:=[tI]
def an13:Ann:=.seq (.a) (.seq (.join [(.norm,⟨[(0,.r (.c (.d (.d tI))))],[5,6,7,8,9],[],[]⟩)] (.a)) (.a))
def m13:(Int×Int)→Option (Int) :=
 fun x=>(bif ltM x.1 0 then some (wrap IntKind.i64 (negM (wrap IntKind.i64 (x.1+1)))) else some x.1).bind fun o=>(remM o x.2).bind fun r=>some r
theorem c13:SpecOK Tryz.prog 13 ⟨as13,rs13,m13⟩ :=
 fc tabs11OK [] an13 Tryz.f13 fun x=>by kernel_rfl
def tabs13:Tabs:=Tabs.add tabs11 13 ⟨as13,rs13,m13⟩
theorem tabs13OK:TabOK Tryz.prog tabs13:=TabOK.add tabs11OK c13 Tryz.call13

/-! putlog/putlogref22.right -/
def as84:List Ty:=[tC,tI]
def rs84:List Ty:=[.bool]
def an84:Ann:=.seq (.a) (.seq (.a) (.seq (.seq (.a) (.block (.seq (.a) (.cond (.a) (.seq (.join [(.norm,⟨[(35,.r (.c (.d (.d .bool))))],[36,37],[],[]⟩)] (.a)) (.a)))))) (.a)))
def m84:((Int×Int×Int×Int×Int)×Int)→Option (Bool) :=
 fun x=>(m38 (x.1.2.1,0,wrap IntKind.i64 (x.2-1))).bind fun r=>bif PE.notM r then some false else bif eqM x.1.1 1 then some (PE.andM (PE.andM (PE.andM
 (eqM x.1.2.2.1 0) (leM 0 x.1.2.2.2.1)) (ltM x.1.2.2.2.1 x.1.2.2.2.2)) (leM x.1.2.2.2.2 2101)) else (bif eqM x.1.1 2 then some (eqM x.1.1 2) else some (eqM
 x.1.1 3)).bind fun o=>bif o then (bif eqM x.1.2.2.1 0 then m38 (x.1.2.2.2.1,0,2100) else some false).bind fun r=>some (PE.andM (PE.andM (eqM x.1.2.2.1
 0) r) (eqM x.1.2.2.2.2 0)) else bif eqM x.1.1 4 then (m38 (x.1.2.2.1,0,wrap IntKind.i64 (x.2-1))).bind fun r=>some (PE.andM (PE.andM r (eqM x.1.2.2.2.1
 0)) (eqM x.1.2.2.2.2 0)) else bif eqM x.1.1 5 then (m38 (x.1.2.2.1,0,wrap IntKind.i64 (x.2-1))).bind fun r=>some (PE.andM (PE.andM (PE.andM r (leM
 (-200) x.1.2.2.2.1)) (leM x.1.2.2.2.1 x.1.2.2.2.2)) (leM x.1.2.2.2.2 200)) else some false
theorem c84:SpecOK Tryz.prog 84 ⟨as84,rs84,m84⟩ :=
 fc tabs13OK [] an84 Tryz.f84 fun x=>by kernel_rfl
def tabs84:Tabs:=Tabs.add tabs13 84 ⟨as84,rs84,m84⟩
theorem tabs84OK:TabOK Tryz.prog tabs84:=TabOK.add tabs13OK c84 Tryz.call84

/-! putlog/putlogref22.Valid -/
def as45:List Ty:=[tD]
def rs45:List Ty:=[.bool]
def an45:Ann:=.seq (.a) (.seq (.a) (.seq (.seq (.a) (.block (.loop ⟨[(3,.r (.c (.d (.d tI))))],(ra 14 17 ([])),[],[]⟩ [(.exit 0,⟨[],(3::ra 14 17 ([])),[],[]⟩),(.ret,⟨[(2,.r (.c (.d (.d .bool))))],(3::ra 14 17 ([])),[],[]⟩)] (.seq (.a) (.seq (.block (.seq (.reg [0,1,0,7,15,0,32,96,255,511] (ra 0 10 ([])) (z0::.s [0] []::za 5 (.s [0] []::z0::z0::[])) (.a)) (.a))) (.a)))))) (.a)))
def m45:((Int×List (Int×Int))×List (Int×Int×Int×Int×Int))→Option (Bool) :=
 fun x=>(m76 (x.1.1,x.1.2)).bind fun r=>bif PE.orM (PE.notM r) (ltM 14 (lenM x.2)) then some false else (loopM (fun (s:Int)=>bif ltM s (lenM x.2) then
 (idxM x.2 s).bind fun r_1=>(m84 ((r_1.1,r_1.2.1,r_1.2.2.1,r_1.2.2.2.1,r_1.2.2.2.2),x.1.1)).bind fun r=>bif PE.notM r then some (Sum.inr (Sum.inr
 false)) else some (Sum.inl (wrap IntKind.i64 (s+1))) else some (Sum.inr (Sum.inl ()))) 0).bind fun o=>Sum.elim (fun (t:Unit)=>some true) (fun (t :
 Bool)=>some t) o
theorem c45:SpecOK Tryz.prog 45 ⟨as45,rs45,m45⟩ :=
 fc tabs84OK [] an45 Tryz.f45 fun x=>by kernel_rfl
def tabs45:Tabs:=Tabs.add tabs84 45 ⟨as45,rs45,m45⟩
theorem tabs45OK:TabOK Tryz.prog tabs45:=TabOK.add tabs84OK c45 Tryz.call45

/-! putlog/putlogref15.listed -/
def as125:List Ty:=[tI,(.pair (.pair .bool (.pair .bool (.pair .bool (.pair .bool (.pair .bool (.pair .bool (.pair .bool .bool))))))) (.pair (.pair .bool (.pair .bool (.pair .bool (.pair .bool (.pair .bool (.pair .bool (.pair .bool .bool))))))) (.pair (.pair .bool (.pair .bool (.pair .bool (.pair .bool (.pair .bool (.pair .bool (.pair .bool .bool))))))) (.pair (.pair .bool (.pair .bool (.pair .bool (.pair .bool (.pair .bool (.pair .bool (.pair .bool .bool))))))) (.pair (.pair .bool (.pair .bool (.pair .bool (.pair .bool (.pair .bool (.pair .bool (.pair .bool .bool))))))) (.pair (.pair .bool (.pair .bool (.pair .bool (.pair .bool (.pair .bool (.pair .bool (.pair .bool .bool))))))) (.pair (.pair .bool (.pair .bool (.pair .bool (.pair .bool (.pair .bool (.pair .bool (.pair .bool .bool))))))) (.pair .bool (.pair .bool (.pair .bool (.pair .bool (.pair .bool (.pair .bool (.pair .bool .bool))))))))))))))]
def rs125:List Ty:=[tO]
def an125:Ann:=.seq (.a) (.seq (.a) (.seq (.seq (.a) (.block (.loop ⟨[(6,.r (.c (.d (.d tI))))],(7::ra 10 23 ([])),[(2,.box [.d (.d tI),.h 3])],[.arr tP]⟩ [(.exit 0,⟨[],(6::7::ra 10 23 ([])),[(2,.box [.d (.d tI),.h 3])],[.arr tP]⟩)] (.seq (.a) (.seq (.block (.seq (.a) (.block (.loop ⟨[(7,.r (.c (.d (.d tI))))],(ra 15 18 ([])),[(2,.box [.d (.d tI),.h 4]),(3,.gone)],[.arr tP]⟩ [(.exit 2,⟨[],(7::ra 15 18 ([])),[(2,.box [.d (.d tI),.h 4]),(3,.gone)],[.arr tP]⟩)] (.seq (.a) (.seq (.join [(.norm,⟨[],(ra 20 13 ([])),[(2,.box [.d (.d tI),.h 5]),(4,.gone)],[.arr tP]⟩)] (.a)) (.a))))))) (.a)))))) (.a)))
def m125:(Int×(Bool×Bool×Bool×Bool×Bool×Bool×Bool×Bool)×(Bool×Bool×Bool×Bool×Bool×Bool×Bool×Bool)×(Bool×Bool×Bool×Bool×Bool×Bool×Bool×Bool)×(Bool×Bool×Bool×Bool×Bool×Bool×Bool×Bool)×(Bool×Bool×Bool×Bool×Bool×Bool×Bool×Bool)×(Bool×Bool×Bool×Bool×Bool×Bool×Bool×Bool)×(Bool×Bool×Bool×Bool×Bool×Bool×Bool×Bool)×Bool×Bool×Bool×Bool×Bool×Bool×Bool×Bool)→Option (Int×List (Int×Int)) :=
 fun x=>(loopM (fun (s:Int×Int×List (Int×Int))=>bif ltM s.1 x.1 then (loopM (fun (s_1:Int×Int×List (Int×Int))=>bif ltM s_1.1 x.1 then
 ((chkM s.1 ↑(nat_lit 8)).bind fun r=>(chkM s_1.1 ↑(nat_lit 8)).bind fun r_1=>(idxM [x.2.1.1,x.2.1.2.1,x.2.1.2.2.1,x.2.1.2.2.2.1,x.2.1.2.2.2.2.1,
 x.2.1.2.2.2.2.2.1,x.2.1.2.2.2.2.2.2.1,x.2.1.2.2.2.2.2.2.2,x.2.2.1.1,x.2.2.1.2.1,x.2.2.1.2.2.1,x.2.2.1.2.2.2.1,x.2.2.1.2.2.2.2.1,x.2.2.1.2.2.2.2.2.1,
 x.2.2.1.2.2.2.2.2.2.1,x.2.2.1.2.2.2.2.2.2.2,x.2.2.2.1.1,x.2.2.2.1.2.1,x.2.2.2.1.2.2.1,x.2.2.2.1.2.2.2.1,x.2.2.2.1.2.2.2.2.1,x.2.2.2.1.2.2.2.2.2.1,
 x.2.2.2.1.2.2.2.2.2.2.1,x.2.2.2.1.2.2.2.2.2.2.2,x.2.2.2.2.1.1,x.2.2.2.2.1.2.1,x.2.2.2.2.1.2.2.1,x.2.2.2.2.1.2.2.2.1,x.2.2.2.2.1.2.2.2.2.1,
 x.2.2.2.2.1.2.2.2.2.2.1,x.2.2.2.2.1.2.2.2.2.2.2.1,x.2.2.2.2.1.2.2.2.2.2.2.2,x.2.2.2.2.2.1.1,x.2.2.2.2.2.1.2.1,x.2.2.2.2.2.1.2.2.1,x.2.2.2.2.2.1.2.2.2.1,
 x.2.2.2.2.2.1.2.2.2.2.1,x.2.2.2.2.2.1.2.2.2.2.2.1,x.2.2.2.2.2.1.2.2.2.2.2.2.1,x.2.2.2.2.2.1.2.2.2.2.2.2.2,x.2.2.2.2.2.2.1.1,x.2.2.2.2.2.2.1.2.1,
 x.2.2.2.2.2.2.1.2.2.1,x.2.2.2.2.2.2.1.2.2.2.1,x.2.2.2.2.2.2.1.2.2.2.2.1,x.2.2.2.2.2.2.1.2.2.2.2.2.1,x.2.2.2.2.2.2.1.2.2.2.2.2.2.1,
 x.2.2.2.2.2.2.1.2.2.2.2.2.2.2,x.2.2.2.2.2.2.2.1.1,x.2.2.2.2.2.2.2.1.2.1,x.2.2.2.2.2.2.2.1.2.2.1,x.2.2.2.2.2.2.2.1.2.2.2.1,x.2.2.2.2.2.2.2.1.2.2.2.2.1,
 x.2.2.2.2.2.2.2.1.2.2.2.2.2.1,x.2.2.2.2.2.2.2.1.2.2.2.2.2.2.1,x.2.2.2.2.2.2.2.1.2.2.2.2.2.2.2,x.2.2.2.2.2.2.2.2.1,x.2.2.2.2.2.2.2.2.2.1,
 x.2.2.2.2.2.2.2.2.2.2.1,x.2.2.2.2.2.2.2.2.2.2.2.1,x.2.2.2.2.2.2.2.2.2.2.2.2.1,x.2.2.2.2.2.2.2.2.2.2.2.2.2.1,x.2.2.2.2.2.2.2.2.2.2.2.2.2.2.1,
 x.2.2.2.2.2.2.2.2.2.2.2.2.2.2.2] (↑(nat_lit 0)+s.1*↑(nat_lit 8)+s_1.1*↑(nat_lit 1))).bind fun r_2=>bif r_2 then (appM (nat_lit 16) s_1.2.2 [(s.1,
 s_1.1)]).bind fun r=>some (s_1.2.1,r) else some (s_1.2.1,s_1.2.2)).bind fun o=>some (Sum.inl (wrap IntKind.i64 (s_1.1+1),o.1,o.2)) else some
 (Sum.inr (s_1.2.1,s_1.2.2))) (0,s.2.1,s.2.2)).bind fun o=>some (Sum.inl (wrap IntKind.i64 (s.1+1),o.1,o.2)) else some (Sum.inr (s.2.1,s.2.2))) (0,
 x.1,[])).bind fun o=>some (o.1,o.2)
theorem c125:SpecOK Tryz.prog 125 ⟨as125,rs125,m125⟩ :=
 fc tabs45OK [] an125 Tryz.f125 fun x=>by kernel_rfl
def tabs125:Tabs:=Tabs.add tabs45 125 ⟨as125,rs125,m125⟩
theorem tabs125OK:TabOK Tryz.prog tabs125:=TabOK.add tabs45OK c125 Tryz.call125

/-! putlog/putlogref15.Reduce -/
def as79:List Ty:=[tO]
def rs79:List Ty:=[tO,tI]
def an79:Ann:=.seq (.a) (.seq (.a) (.seq (.a) (.seq (.a) (.seq (.seq (.a) (.block (.loop ⟨[(6,.r (.c (.d (.d tI))))],(7::8::ra 15 43 ([])),[(3,.flat 64 .bool)],[]⟩ [(.exit 0,⟨[],(6::7::8::ra 15 43 ([])),[(3,.flat 64 .bool)],[]⟩)] (.seq (.a) (.seq (.block (.seq (.a) (.block (.loop ⟨[(7,.r (.c (.d (.d tI))))],(8::ra 21 37 ([])),[(3,.flat 64 .bool)],[]⟩ [(.exit 2,⟨[],(7::8::ra 21 37 ([])),[(3,.flat 64 .bool)],[]⟩)] (.seq (.a) (.seq (.block (.seq (.reg [0,0,0,0,4,28,60,1,255,511] (ra 0 10 ([])) (za 4 (.s [2] []::.s [2] []::.s [2] []::.s [3] []::.s [3] []::.s [3] [3]::[])) (.a)) (.seq (.a) (.block (.loop ⟨[(8,.r (.c (.d (.d tI))))],(ra 36 22 ([])),[(3,.flat 64 .bool)],[]⟩ [(.exit 4,⟨[],(8::ra 36 22 ([])),[(3,.flat 64 .bool)],[]⟩)] (.seq (.a) (.seq (.join [(.norm,⟨[],(ra 42 16 ([])),[(3,.flat 64 .bool)],[]⟩)] (.a)) (.a)))))))) (.a))))))) (.a)))))) (.a)))))
def m79:(Int×List (Int×Int))→Option ((Int×List (Int×Int))×Int) :=
 fun x=>(m76 (x.1,x.2)).bind fun r=>bif PE.notM r then some ((0,[]),150) else (m77 (x.1,x.2)).bind fun r_1=>(loopM (fun (s:Int×List Bool)=>bif
 ltM s.1 x.1 then (loopM (fun (s_1:Int×List Bool)=>bif ltM s_1.1 x.1 then (chkM s.1 ↑(nat_lit 8)).bind fun r_2=>(chkM s_1.1 ↑(nat_lit 8)).bind fun r_3
 => (idxM [r_1.1.1,r_1.1.2.1,r_1.1.2.2.1,r_1.1.2.2.2.1,r_1.1.2.2.2.2.1,r_1.1.2.2.2.2.2.1,r_1.1.2.2.2.2.2.2.1,r_1.1.2.2.2.2.2.2.2,r_1.2.1.1,
 r_1.2.1.2.1,r_1.2.1.2.2.1,r_1.2.1.2.2.2.1,r_1.2.1.2.2.2.2.1,r_1.2.1.2.2.2.2.2.1,r_1.2.1.2.2.2.2.2.2.1,r_1.2.1.2.2.2.2.2.2.2,r_1.2.2.1.1,r_1.2.2.1.2.1,
 r_1.2.2.1.2.2.1,r_1.2.2.1.2.2.2.1,r_1.2.2.1.2.2.2.2.1,r_1.2.2.1.2.2.2.2.2.1,r_1.2.2.1.2.2.2.2.2.2.1,r_1.2.2.1.2.2.2.2.2.2.2,r_1.2.2.2.1.1,
 r_1.2.2.2.1.2.1,r_1.2.2.2.1.2.2.1,r_1.2.2.2.1.2.2.2.1,r_1.2.2.2.1.2.2.2.2.1,r_1.2.2.2.1.2.2.2.2.2.1,r_1.2.2.2.1.2.2.2.2.2.2.1,r_1.2.2.2.1.2.2.2.2.2.2.2,
 r_1.2.2.2.2.1.1,r_1.2.2.2.2.1.2.1,r_1.2.2.2.2.1.2.2.1,r_1.2.2.2.2.1.2.2.2.1,r_1.2.2.2.2.1.2.2.2.2.1,r_1.2.2.2.2.1.2.2.2.2.2.1,
 r_1.2.2.2.2.1.2.2.2.2.2.2.1,r_1.2.2.2.2.1.2.2.2.2.2.2.2,r_1.2.2.2.2.2.1.1,r_1.2.2.2.2.2.1.2.1,r_1.2.2.2.2.2.1.2.2.1,r_1.2.2.2.2.2.1.2.2.2.1,
 r_1.2.2.2.2.2.1.2.2.2.2.1,r_1.2.2.2.2.2.1.2.2.2.2.2.1,r_1.2.2.2.2.2.1.2.2.2.2.2.2.1,r_1.2.2.2.2.2.1.2.2.2.2.2.2.2,r_1.2.2.2.2.2.2.1.1,
 r_1.2.2.2.2.2.2.1.2.1,r_1.2.2.2.2.2.2.1.2.2.1,r_1.2.2.2.2.2.2.1.2.2.2.1,r_1.2.2.2.2.2.2.1.2.2.2.2.1,r_1.2.2.2.2.2.2.1.2.2.2.2.2.1,
 r_1.2.2.2.2.2.2.1.2.2.2.2.2.2.1,r_1.2.2.2.2.2.2.1.2.2.2.2.2.2.2,r_1.2.2.2.2.2.2.2.1,r_1.2.2.2.2.2.2.2.2.1,r_1.2.2.2.2.2.2.2.2.2.1,
 r_1.2.2.2.2.2.2.2.2.2.2.1,r_1.2.2.2.2.2.2.2.2.2.2.2.1,r_1.2.2.2.2.2.2.2.2.2.2.2.2.1,r_1.2.2.2.2.2.2.2.2.2.2.2.2.2.1,r_1.2.2.2.2.2.2.2.2.2.2.2.2.2.2]
 (↑(nat_lit 0)+s.1*↑(nat_lit 8)+s_1.1*↑(nat_lit 1))).bind fun r_4=>(chkM s.1 ↑(nat_lit 8)).bind fun r_5=>(chkM s_1.1 ↑(nat_lit 8)).bind fun r_6 =>
 (setM s_1.2 (↑(nat_lit 0)+s.1*↑(nat_lit 8)+s_1.1*↑(nat_lit 1)) fun (x:Bool)=>some r_4).bind fun r_7=>(loopM (fun (s_2:Int×List Bool)=>bif
 ltM s_2.1 x.1 then ((chkM s.1 ↑(nat_lit 8)).bind fun r_8=>(chkM s_2.1 ↑(nat_lit 8)).bind fun r_9=>(idxM [r_1.1.1,r_1.1.2.1,r_1.1.2.2.1,r_1.1.2.2.2.1,
 r_1.1.2.2.2.2.1,r_1.1.2.2.2.2.2.1,r_1.1.2.2.2.2.2.2.1,r_1.1.2.2.2.2.2.2.2,r_1.2.1.1,r_1.2.1.2.1,r_1.2.1.2.2.1,r_1.2.1.2.2.2.1,r_1.2.1.2.2.2.2.1,
 r_1.2.1.2.2.2.2.2.1,r_1.2.1.2.2.2.2.2.2.1,r_1.2.1.2.2.2.2.2.2.2,r_1.2.2.1.1,r_1.2.2.1.2.1,r_1.2.2.1.2.2.1,r_1.2.2.1.2.2.2.1,r_1.2.2.1.2.2.2.2.1,
 r_1.2.2.1.2.2.2.2.2.1,r_1.2.2.1.2.2.2.2.2.2.1,r_1.2.2.1.2.2.2.2.2.2.2,r_1.2.2.2.1.1,r_1.2.2.2.1.2.1,r_1.2.2.2.1.2.2.1,r_1.2.2.2.1.2.2.2.1,
 r_1.2.2.2.1.2.2.2.2.1,r_1.2.2.2.1.2.2.2.2.2.1,r_1.2.2.2.1.2.2.2.2.2.2.1,r_1.2.2.2.1.2.2.2.2.2.2.2,r_1.2.2.2.2.1.1,r_1.2.2.2.2.1.2.1,r_1.2.2.2.2.1.2.2.1,
 r_1.2.2.2.2.1.2.2.2.1,r_1.2.2.2.2.1.2.2.2.2.1,r_1.2.2.2.2.1.2.2.2.2.2.1,r_1.2.2.2.2.1.2.2.2.2.2.2.1,r_1.2.2.2.2.1.2.2.2.2.2.2.2,r_1.2.2.2.2.2.1.1,
 r_1.2.2.2.2.2.1.2.1,r_1.2.2.2.2.2.1.2.2.1,r_1.2.2.2.2.2.1.2.2.2.1,r_1.2.2.2.2.2.1.2.2.2.2.1,r_1.2.2.2.2.2.1.2.2.2.2.2.1,r_1.2.2.2.2.2.1.2.2.2.2.2.2.1,
 r_1.2.2.2.2.2.1.2.2.2.2.2.2.2,r_1.2.2.2.2.2.2.1.1,r_1.2.2.2.2.2.2.1.2.1,r_1.2.2.2.2.2.2.1.2.2.1,r_1.2.2.2.2.2.2.1.2.2.2.1,r_1.2.2.2.2.2.2.1.2.2.2.2.1,
 r_1.2.2.2.2.2.2.1.2.2.2.2.2.1,r_1.2.2.2.2.2.2.1.2.2.2.2.2.2.1,r_1.2.2.2.2.2.2.1.2.2.2.2.2.2.2,r_1.2.2.2.2.2.2.2.1,r_1.2.2.2.2.2.2.2.2.1,
 r_1.2.2.2.2.2.2.2.2.2.1,r_1.2.2.2.2.2.2.2.2.2.2.1,r_1.2.2.2.2.2.2.2.2.2.2.2.1,r_1.2.2.2.2.2.2.2.2.2.2.2.2.1,r_1.2.2.2.2.2.2.2.2.2.2.2.2.2.1,
 r_1.2.2.2.2.2.2.2.2.2.2.2.2.2.2] (↑(nat_lit 0)+s.1*↑(nat_lit 8)+s_2.1*↑(nat_lit 1))).bind fun r_10=>(bif r_10 then chkM s_2.1 ↑(nat_lit 8) else some
 ()).bind fun r_11=>(bif r_10 then chkM s_1.1 ↑(nat_lit 8) else some ()).bind fun r_12=>(bif r_10 then idxM [r_1.1.1,r_1.1.2.1,r_1.1.2.2.1,
 r_1.1.2.2.2.1,r_1.1.2.2.2.2.1,r_1.1.2.2.2.2.2.1,r_1.1.2.2.2.2.2.2.1,r_1.1.2.2.2.2.2.2.2,r_1.2.1.1,r_1.2.1.2.1,r_1.2.1.2.2.1,r_1.2.1.2.2.2.1,
 r_1.2.1.2.2.2.2.1,r_1.2.1.2.2.2.2.2.1,r_1.2.1.2.2.2.2.2.2.1,r_1.2.1.2.2.2.2.2.2.2,r_1.2.2.1.1,r_1.2.2.1.2.1,r_1.2.2.1.2.2.1,r_1.2.2.1.2.2.2.1,
 r_1.2.2.1.2.2.2.2.1,r_1.2.2.1.2.2.2.2.2.1,r_1.2.2.1.2.2.2.2.2.2.1,r_1.2.2.1.2.2.2.2.2.2.2,r_1.2.2.2.1.1,r_1.2.2.2.1.2.1,r_1.2.2.2.1.2.2.1,
 r_1.2.2.2.1.2.2.2.1,r_1.2.2.2.1.2.2.2.2.1,r_1.2.2.2.1.2.2.2.2.2.1,r_1.2.2.2.1.2.2.2.2.2.2.1,r_1.2.2.2.1.2.2.2.2.2.2.2,r_1.2.2.2.2.1.1,r_1.2.2.2.2.1.2.1,
 r_1.2.2.2.2.1.2.2.1,r_1.2.2.2.2.1.2.2.2.1,r_1.2.2.2.2.1.2.2.2.2.1,r_1.2.2.2.2.1.2.2.2.2.2.1,r_1.2.2.2.2.1.2.2.2.2.2.2.1,r_1.2.2.2.2.1.2.2.2.2.2.2.2,
 r_1.2.2.2.2.2.1.1,r_1.2.2.2.2.2.1.2.1,r_1.2.2.2.2.2.1.2.2.1,r_1.2.2.2.2.2.1.2.2.2.1,r_1.2.2.2.2.2.1.2.2.2.2.1,r_1.2.2.2.2.2.1.2.2.2.2.2.1,
 r_1.2.2.2.2.2.1.2.2.2.2.2.2.1,r_1.2.2.2.2.2.1.2.2.2.2.2.2.2,r_1.2.2.2.2.2.2.1.1,r_1.2.2.2.2.2.2.1.2.1,r_1.2.2.2.2.2.2.1.2.2.1,r_1.2.2.2.2.2.2.1.2.2.2.1,
 r_1.2.2.2.2.2.2.1.2.2.2.2.1,r_1.2.2.2.2.2.2.1.2.2.2.2.2.1,r_1.2.2.2.2.2.2.1.2.2.2.2.2.2.1,r_1.2.2.2.2.2.2.1.2.2.2.2.2.2.2,r_1.2.2.2.2.2.2.2.1,
 r_1.2.2.2.2.2.2.2.2.1,r_1.2.2.2.2.2.2.2.2.2.1,r_1.2.2.2.2.2.2.2.2.2.2.1,r_1.2.2.2.2.2.2.2.2.2.2.2.1,r_1.2.2.2.2.2.2.2.2.2.2.2.2.1,
 r_1.2.2.2.2.2.2.2.2.2.2.2.2.2.1,r_1.2.2.2.2.2.2.2.2.2.2.2.2.2.2] (↑(nat_lit 0)+s_2.1*↑(nat_lit 8)+s_1.1*↑(nat_lit 1)) else some false).bind fun r_13
 => bif PE.andM r_10 r_13 then (chkM s.1 ↑(nat_lit 8)).bind fun r_14=>(chkM s_1.1 ↑(nat_lit 8)).bind fun r_15=>(setM s_2.2 (↑(nat_lit 0)+s.1*↑(nat_lit
 8)+s_1.1*↑(nat_lit 1)) fun (x:Bool)=>some false).bind fun r=>some r else some s_2.2).bind fun o=>some (Sum.inl (wrap IntKind.i64 (s_2.1+1),o))
 else some (Sum.inr s_2.2)) (0,r_7)).bind fun o=>some (Sum.inl (wrap IntKind.i64 (s_1.1+1),o)) else some (Sum.inr s_1.2)) (0,s.2)).bind fun o=>some
 (Sum.inl (wrap IntKind.i64 (s.1+1),o)) else some (Sum.inr s.2)) (0,[false,false,false,false,false,false,false,false,false,false,false,false,
 false,false,false,false,false,false,false,false,false,false,false,false,false,false,false,false,false,false,false,false,false,false,
 false,false,false,false,false,false,false,false,false,false,false,false,false,false,false,false,false,false,false,false,false,false,
 false,false,false,false,false,false,false,false])).bind fun o=>(m125 (x.1,(nthD o (nat_lit 0) false,nthD o (nat_lit 1) false,nthD o (nat_lit 2)
 false,nthD o (nat_lit 3) false,nthD o (nat_lit 4) false,nthD o (nat_lit 5) false,nthD o (nat_lit 6) false,nthD o (nat_lit 7) false),(nthD o (nat_lit 8)
 false,nthD o (nat_lit 9) false,nthD o (nat_lit 10) false,nthD o (nat_lit 11) false,nthD o (nat_lit 12) false,nthD o (nat_lit 13) false,nthD o (nat_lit
 14) false,nthD o (nat_lit 15) false),(nthD o (nat_lit 16) false,nthD o (nat_lit 17) false,nthD o (nat_lit 18) false,nthD o (nat_lit 19) false,nthD o
 (nat_lit 20) false,nthD o (nat_lit 21) false,nthD o (nat_lit 22) false,nthD o (nat_lit 23) false),(nthD o (nat_lit 24) false,nthD o (nat_lit 25) false,
 nthD o (nat_lit 26) false,nthD o (nat_lit 27) false,nthD o (nat_lit 28) false,nthD o (nat_lit 29) false,nthD o (nat_lit 30) false,nthD o (nat_lit 31)
 false),(nthD o (nat_lit 32) false,nthD o (nat_lit 33) false,nthD o (nat_lit 34) false,nthD o (nat_lit 35) false,nthD o (nat_lit 36) false,nthD o
 (nat_lit 37) false,nthD o (nat_lit 38) false,nthD o (nat_lit 39) false),(nthD o (nat_lit 40) false,nthD o (nat_lit 41) false,nthD o (nat_lit 42) false,
 nthD o (nat_lit 43) false,nthD o (nat_lit 44) false,nthD o (nat_lit 45) false,nthD o (nat_lit 46) false,nthD o (nat_lit 47) false),(nthD o (nat_lit 48)
 false,nthD o (nat_lit 49) false,nthD o (nat_lit 50) false,nthD o (nat_lit 51) false,nthD o (nat_lit 52) false,nthD o (nat_lit 53) false,nthD o (nat_lit
 54) false,nthD o (nat_lit 55) false),nthD o (nat_lit 56) false,nthD o (nat_lit 57) false,nthD o (nat_lit 58) false,nthD o (nat_lit 59) false,nthD o
 (nat_lit 60) false,nthD o (nat_lit 61) false,nthD o (nat_lit 62) false,nthD o (nat_lit 63) false)).bind fun r=>some ((r.1,r.2),0)
theorem c79:SpecOK Tryz.prog 79 ⟨as79,rs79,m79⟩ :=
 fc tabs125OK [] an79 Tryz.f79 fun x=>by kernel_rfl
def tabs79:Tabs:=Tabs.add tabs125 79 ⟨as79,rs79,m79⟩
theorem tabs79OK:TabOK Tryz.prog tabs79:=TabOK.add tabs125OK c79 Tryz.call79

/-! putlog/putlogref22.Bounds -/
def as41:List Ty:=[tD]
def rs41:List Ty:=[(.pair tI (.list tB)),tI]
def an41:Ann:=.seq (.a) (.seq (.a) (.seq (.a) (.seq (.a) (.seq (.seq (.a) (.block (.loop ⟨[(6,.r (.c (.d (.d tI))))],(ra 24 16 ([])),[(2,.box [.d (.d tI),.h 3])],[.arr tB]⟩ [(.exit 0,⟨[],(6::ra 24 16 ([])),[(2,.box [.d (.d tI),.h 3])],[.arr tB]⟩)] (.a)))) (.seq (.seq (.a) (.block (.loop ⟨[(7,.r (.c (.d (.d tI))))],(8::9::10::ra 40 82 ([])),[(2,.box [.d (.d tI),.h 4]),(3,.gone)],[.arr tB]⟩ [(.exit 2,⟨[],(7::8::9::10::ra 40 82 ([])),[(2,.box [.d (.d tI),.h 4]),(3,.gone)],[.arr tB]⟩)] (.seq (.a) (.seq (.join [(.norm,⟨[],(8::9::10::ra 47 75 ([])),[(2,.box [.d (.d tI),.h 5]),(4,.gone)],[.arr tB]⟩)] (.block (.seq (.a) (.seq (.a) (.seq (.a) (.seq (.join [(.norm,⟨[(9,.r (.c (.d (.d tI)))),(10,.r (.c (.d (.d tI))))],(52::53::ra 74 15 ([])),[],[]⟩),(.exit 3,⟨[],(ra 52 24 (81::82::85::86::ra 89 17 ([]))),[(2,.box [.d (.d tI),.h 6]),(4,.gone)],[.arr tB]⟩)] (.a)) (.a))))))) (.a)))))) (.seq (.a) (.seq (.seq (.a) (.block (.loop ⟨[(13,.r (.c (.d (.d tI))))],(ra 128 25 ([])),[(2,.box [.d (.d tI),.h 6]),(4,.gone)],[.arr tB]⟩ [(.exit 5,⟨[],(13::ra 128 25 ([])),[(2,.box [.d (.d tI),.h 6]),(4,.gone)],[.arr tB]⟩)] (.seq (.a) (.seq (.block (.reg [0,1,0,4,0,28,60,124,0,256,0,1792,3840,7936,16380,32764,65535,131071,262143] (ra 0 19 ([])) (z0::.s [2] []::z0::.s [5] []::za 5 (.s [5] []::za 6 (.s [6] [7,6]::z0::.s [2,7] [2]::[]))) (.a))) (.a)))))) (.a))))))))
def m41:((Int×List (Int×Int))×List (Int×Int×Int×Int×Int))→Option ((Int×List (Int×Int×Int))×Int) :=
 fun x=>(m45 ((x.1.1,x.1.2),x.2)).bind fun r=>bif PE.notM r then some ((0,[]),220) else (loopM (fun (s:Int×Int×List (Int×Int×Int))=>bif ltM
 s.1 x.1.1 then (appM (nat_lit 24) s.2.2 [(s.1,x.1.1,0),(x.1.1,s.1,2100)]).bind fun r=>some (Sum.inl (wrap IntKind.i64 (s.1+1),s.2.1,r)) else some
 (Sum.inr (s.2.1,s.2.2))) (0,wrap IntKind.i64 (x.1.1+1),[])).bind fun o=>(loopM (fun (s:Int×Int×List (Int×Int×Int))=>bif ltM s.1 (lenM x.2)
 then ((idxM x.2 s.1).bind fun r_1=>(bif eqM r_1.1 1 then some (Sum.inl (r_1.2.2.2.1,wrap IntKind.i64 (r_1.2.2.2.2-1))) else bif eqM r_1.1 2 then some
 (Sum.inl (r_1.2.2.2.1,2100)) else bif eqM r_1.1 3 then some (Sum.inl (0,r_1.2.2.2.1)) else bif eqM r_1.1 4 then (appM (nat_lit 24) s.2.2 [(r_1.2.1,
 r_1.2.2.1,0),(r_1.2.2.1,r_1.2.1,0)]).bind fun r=>some (Sum.inr (s.2.1,r)) else (appM (nat_lit 24) s.2.2 [(r_1.2.1,r_1.2.2.1,r_1.2.2.2.2),(r_1.2.2.1,
 r_1.2.1,wrap IntKind.i64 (negM r_1.2.2.2.1))]).bind fun r=>some (Sum.inr (s.2.1,r))).bind fun o_1=>Sum.elim (fun (t:Int×Int)=>(appM (nat_lit 24)
 s.2.2 [(r_1.2.1,x.1.1,wrap IntKind.i64 (negM t.1)),(x.1.1,r_1.2.1,t.2)]).bind fun r=>some (s.2.1,r)) (fun (t:Int×List (Int×Int×Int))=>some
 (t.1,t.2)) o_1).bind fun o=>some (Sum.inl (wrap IntKind.i64 (s.1+1),o.1,o.2)) else some (Sum.inr (s.2.1,s.2.2))) (0,o.1,o.2)).bind fun o_1=>(m79
 (x.1.1,x.1.2)).bind fun r_1=>(loopM (fun (s:Int×Int×List (Int×Int×Int))=>bif ltM s.1 (lenM r_1.1.2) then (idxM r_1.1.2 s.1).bind fun r_2 =>
 (idxM r_1.1.2 s.1).bind fun r_3=>(appM (nat_lit 24) s.2.2 [(r_2.2,r_3.1,0)]).bind fun r=>some (Sum.inl (wrap IntKind.i64 (s.1+1),s.2.1,r)) else some
 (Sum.inr (s.2.1,s.2.2))) (0,o_1.1,o_1.2)).bind fun o=>some ((o.1,o.2),0)
theorem c41:SpecOK Tryz.prog 41 ⟨as41,rs41,m41⟩ :=
 fc tabs79OK [] an41 Tryz.f41 fun x=>by kernel_rfl
def tabs41:Tabs:=Tabs.add tabs79 41 ⟨as41,rs41,m41⟩
theorem tabs41OK:TabOK Tryz.prog tabs41:=TabOK.add tabs79OK c41 Tryz.call41

/-! putlog/putlogref09.in -/
def as165:List Ty:=[tI,tI,tI]
def rs165:List Ty:=[.bool]
def an165:Ann:=.a
def m165:(Int×Int×Int)→Option (Bool) :=
 fun x=>some (PE.andM (leM x.2.1 x.1) (leM x.1 x.2.2))
theorem c165:SpecOK Tryz.prog 165 ⟨as165,rs165,m165⟩ :=
 fc tabs41OK [] an165 Tryz.f165 fun x=>by kernel_rfl
def tabs165:Tabs:=Tabs.add tabs41 165 ⟨as165,rs165,m165⟩
theorem tabs165OK:TabOK Tryz.prog tabs165:=TabOK.add tabs41OK c165 Tryz.call165

/-! putlog/putlogref09.Bound -/
def as131:List Ty:=[tI,tB]
def rs131:List Ty:=[.bool]
def an131:Ann:=.a
def m131:(Int×Int×Int×Int)→Option (Bool) :=
 fun x=>(m165 (x.2.1,0,wrap IntKind.i64 (x.1-1))).bind fun r=>(bif r then m165 (x.2.2.1,0,wrap IntKind.i64 (x.1-1)) else some false).bind fun r_1 =>
 (bif PE.andM r r_1 then m165 (x.2.2.2,(-1000000000),1000000000) else some false).bind fun r_2=>some (PE.andM (PE.andM r r_1) r_2)
theorem c131:SpecOK Tryz.prog 131 ⟨as131,rs131,m131⟩ :=
 fc tabs165OK [] an131 Tryz.f131 fun x=>by kernel_rfl
def tabs131:Tabs:=Tabs.add tabs165 131 ⟨as131,rs131,m131⟩
theorem tabs131OK:TabOK Tryz.prog tabs131:=TabOK.add tabs165OK c131 Tryz.call131

/-! putlog/putlogref09.Valid -/
def as126:List Ty:=[(.pair tI (.list tB))]
def rs126:List Ty:=[.bool]
def an126:Ann:=.seq (.a) (.seq (.a) (.seq (.seq (.a) (.block (.loop ⟨[(3,.r (.c (.d (.d tI))))],(ra 14 16 ([])),[],[]⟩ [(.exit 0,⟨[],(3::ra 14 16 ([])),[],[]⟩),(.ret,⟨[(2,.r (.c (.d (.d .bool))))],(3::ra 14 16 ([])),[],[]⟩)] (.seq (.a) (.seq (.block (.seq (.reg [0,1,0,4,0,28,60,127,255] (ra 0 9 ([])) (z0::.s [0] []::z0::.s [0] []::za 5 ([])) (.a)) (.a))) (.a)))))) (.a)))
def m126:(Int×List (Int×Int×Int))→Option (Bool) :=
 fun x=>(m165 (x.1,0,16)).bind fun r=>bif PE.orM (PE.notM r) (ltM 60 (lenM x.2)) then some false else (loopM (fun (s:Int)=>bif ltM s (lenM x.2) then
 (idxM x.2 s).bind fun r_1=>(m131 (x.1,r_1.1,r_1.2.1,r_1.2.2)).bind fun r=>bif PE.notM r then some (Sum.inr (Sum.inr false)) else some (Sum.inl (wrap
 IntKind.i64 (s+1))) else some (Sum.inr (Sum.inl ()))) 0).bind fun o=>Sum.elim (fun (t:Unit)=>some true) (fun (t:Bool)=>some t) o
theorem c126:SpecOK Tryz.prog 126 ⟨as126,rs126,m126⟩ :=
 fc tabs131OK [] an126 Tryz.f126 fun x=>by kernel_rfl
def tabs126:Tabs:=Tabs.add tabs131 126 ⟨as126,rs126,m126⟩
theorem tabs126OK:TabOK Tryz.prog tabs126:=TabOK.add tabs131OK c126 Tryz.call126

/-! putlog/putlogref09.sums -/
def as128:List Ty:=[(.pair tI (.list tB))]
def rs128:List Ty:=[(.list (.list tL))]
def an128:Ann:=.seq (.a) (.seq (.a) (.seq (.seq (.a) (.block (.loop ⟨[(3,.r (.c (.h 1))),(4,.r (.c (.d (.d tI))))],(ra 5 93 ([])),[],[.arr (.list tL)]⟩ [(.exit 0,⟨[(3,.r (.c (.h 1)))],(ra 4 94 ([])),[],[.arr (.list tL)]⟩)] (.seq (.a) (.seq (.block (.seq (.a) (.seq (.seq (.a) (.block (.loop ⟨[(5,.r (.c (.h 2))),(6,.r (.c (.d (.d tI))))],(7::8::9::10::11::ra 18 76 ([])),[],[.arr tL]⟩ [(.exit 2,⟨[(5,.r (.c (.h 2)))],(ra 6 6 (ra 18 76 ([]))),[],[.arr tL]⟩)] (.seq (.a) (.seq (.block (.seq (.a) (.seq (.seq (.a) (.block (.loop ⟨[(8,.r (.c (.d (.d tI))))],(ra 27 19 ([])),[(3,.arr tI)],[]⟩ [(.exit 4,⟨[],(8::ra 27 19 ([])),[(3,.arr tI)],[]⟩)] (.seq (.a) (.seq (.join [(.norm,⟨[],(ra 33 13 ([])),[(3,.arr tI)],[]⟩)] (.a)) (.a)))))) (.seq (.seq (.a) (.block (.loop ⟨[(9,.r (.c (.d (.d tI))))],(10::11::ra 46 44 ([])),[(3,.arr tI)],[]⟩ [(.exit 6,⟨[],(9::10::11::ra 46 44 ([])),[(3,.arr tI)],[]⟩)] (.seq (.a) (.seq (.join [(.norm,⟨[],(10::11::ra 57 33 ([])),[(3,.arr tI)],[]⟩)] (.block (.seq (.a) (.seq (.reg [0,0,2,7,15,0,63,127,0,256,1023,2047,4095] (ra 0 13 ([])) (za 3 (.s [1] []::.s [1] []::za 4 (.s [4] []::za 3 ([])))) (.a)) (.seq (.a) (.cond (.reg [0,0,2,0,0,16,56,120,0,0,512,1792,4088,8191,16383] (ra 0 15 ([])) [z0,z0,.s [4] [],z0,z0,.s [4] [],.s [3] [],.s [3] [],z0,z0,.s [4] [],z0,z0,.s [3] [],.s [3] [3]] (.a)) (.a))))))) (.a)))))) (.a))))) (.a)))))) (.a)))) (.a)))))) (.a)))
def m128:(Int×List (Int×Int×Int))→Option (List (List (List Int))) :=
 fun x=>(loopM (fun (s:Int×List (List (List Int)))=>bif leM s.1 x.1 then (loopM (fun (s_1:Int×List (List Int))=>bif ltM s_1.1 x.1 then (mkM x.1 x.1
 (nat_lit 8) 0).bind fun r=>(loopM (fun (s_2:Int×List Int)=>bif ltM s_2.1 x.1 then ((chkM s_2.1 (lenM s_2.2)).bind fun r_1=>(setM s_2.2 s_2.1 fun (x
 : Int)=>some 1152921504606846976).bind fun r_2=>bif PE.andM (eqM s.1 0) (eqM s_1.1 s_2.1) then (chkM s_2.1 (lenM r_2)).bind fun r_3=>(setM r_2 s_2.1 fun
 (x:Int)=>some 0).bind fun r=>some r else some r_2).bind fun o=>some (Sum.inl (wrap IntKind.i64 (s_2.1+1),o)) else some (Sum.inr s_2.2)) (0,
 r)).bind fun o=>(loopM (fun (s_2:Int×List Int)=>bif PE.andM (ltM s_2.1 (lenM x.2)) (ltM 0 s.1) then ((idxM x.2 s_2.1).bind fun r_1=>(chkM (wrap
 IntKind.i64 (s.1-1)) (lenM s.2)).bind fun r_2=>(idxM s.2 (wrap IntKind.i64 (s.1-1))).bind fun r_3=>(idxM r_3 s_1.1).bind fun r_4=>(idxM r_4
 r_1.1).bind fun r_5=>bif PE.notM (eqM r_5 1152921504606846976) then (chkM r_1.2.1 (lenM s_2.2)).bind fun r_6=>(idxM s_2.2 r_1.2.1).bind fun r_7=>(chkM
 r_1.2.1 (lenM s_2.2)).bind fun r_8=>(setM s_2.2 r_1.2.1 fun (x:Int)=>some (min r_7 (wrap IntKind.i64 (r_5+r_1.2.2)))).bind fun r=>some r else some
 s_2.2).bind fun o=>some (Sum.inl (wrap IntKind.i64 (s_2.1+1),o)) else some (Sum.inr s_2.2)) (0,o)).bind fun o_1=>(appM (nat_lit 24) s_1.2 [o_1]).bind
 fun r=>some (Sum.inl (wrap IntKind.i64 (s_1.1+1),r)) else some (Sum.inr s_1.2)) (0,[])).bind fun o=>(appM (nat_lit 24) s.2 [o]).bind fun r=>some
 (Sum.inl (wrap IntKind.i64 (s.1+1),r)) else some (Sum.inr s.2)) (0,[])).bind fun o=>some o
theorem c128:SpecOK Tryz.prog 128 ⟨as128,rs128,m128⟩ :=
 fc tabs126OK [] an128 Tryz.f128 fun x=>by kernel_rfl
def tabs128:Tabs:=Tabs.add tabs126 128 ⟨as128,rs128,m128⟩
theorem tabs128OK:TabOK Tryz.prog tabs128:=TabOK.add tabs126OK c128 Tryz.call128
end
end Go.Proofs.YthfgccfaildmfaaGreatDoor
namespace Go.Proofs.YthfgccfaildmfaaGreatDoor
open Go Go.Abs Go.PE Go.Proofs
open Go.IntKind (wrap)
set_option maxRecDepth 100000
noncomputable section

/-! putlog/putlogref09.contradicts -/
def as127:List Ty:=[(.pair tI (.list tB))]
def rs127:List Ty:=[.bool]
def an127:Ann:=.seq (.a) (.seq (.a) (.seq (.seq (.a) (.block (.loop ⟨[(4,.r (.c (.d (.d tI))))],(5::ra 8 23 ([])),[],[]⟩ [(.exit 0,⟨[],(4::5::ra 8 23 ([])),[],[]⟩),(.ret,⟨[(2,.r (.c (.d (.d .bool))))],(4::5::ra 8 23 ([])),[],[]⟩)] (.seq (.a) (.seq (.block (.seq (.a) (.block (.loop ⟨[(5,.r (.c (.d (.d tI))))],(ra 14 17 ([])),[],[]⟩ [(.exit 2,⟨[],(5::ra 14 17 ([])),[],[]⟩),(.ret,⟨[(2,.r (.c (.d (.d .bool))))],(5::ra 14 17 ([])),[],[]⟩)] (.a))))) (.a)))))) (.a)))
def m127:(Int×List (Int×Int×Int))→Option (Bool) :=
 fun x=>(m128 (x.1,x.2)).bind fun r=>(loopM (fun (s:Int)=>bif leM s x.1 then (loopM (fun (s_1:Int)=>bif ltM s_1 x.1 then (idxM r s).bind fun r_1 =>
 (idxM r_1 s_1).bind fun r_2=>(idxM r_2 s_1).bind fun r=>bif ltM r 0 then some (Sum.inr (Sum.inr true)) else some (Sum.inl (wrap IntKind.i64 (s_1+1)))
 else some (Sum.inr (Sum.inl ()))) 0).bind fun o=>Sum.elim (fun (t:Unit)=>some (Sum.inl (wrap IntKind.i64 (s+1)))) (fun (t:Bool)=>some (Sum.inr
 (Sum.inr t))) o else some (Sum.inr (Sum.inl ()))) 1).bind fun o=>Sum.elim (fun (t:Unit)=>some false) (fun (t:Bool)=>some t) o
theorem c127:SpecOK Tryz.prog 127 ⟨as127,rs127,m127⟩ :=
 fc tabs128OK [] an127 Tryz.f127 fun x=>by kernel_rfl
def tabs127:Tabs:=Tabs.add tabs128 127 ⟨as127,rs127,m127⟩
theorem tabs127OK:TabOK Tryz.prog tabs127:=TabOK.add tabs128OK c127 Tryz.call127

/-! putlog/putlogref09.Close -/
def as80:List Ty:=[(.pair tI (.list tB))]
def rs80:List Ty:=[(.list tL),tI]
def an80:Ann:=.seq (.a) (.seq (.a) (.seq (.a) (.seq (.a) (.seq (.a) (.seq (.seq (.a) (.block (.loop ⟨[(5,.r (.c (.h 1))),(6,.r (.c (.d (.d tI))))],(7::8::9::ra 17 46 ([])),[],[.arr tL]⟩ [(.exit 0,⟨[(5,.r (.c (.h 1)))],(6::7::8::9::ra 17 46 ([])),[],[.arr tL]⟩)] (.seq (.a) (.seq (.block (.seq (.a) (.seq (.seq (.a) (.block (.loop ⟨[(8,.r (.c (.d (.d tI))))],(9::ra 26 33 ([])),[(2,.arr tI)],[]⟩ [(.exit 2,⟨[],(8::9::ra 26 33 ([])),[(2,.arr tI)],[]⟩)] (.seq (.a) (.seq (.block (.seq (.a) (.seq (.a) (.block (.loop ⟨[(9,.r (.c (.d (.d tI))))],(ra 35 24 ([])),[(2,.arr tI)],[]⟩ [(.exit 4,⟨[],(9::ra 35 24 ([])),[(2,.arr tI)],[]⟩)] (.seq (.a) (.seq (.block (.reg [0,0,0,0,12,28,0,0,192,448,0,1984,4032,0,16320,32704,65532,131071,262143] (ra 0 19 ([])) (za 4 (.s [2] []::.s [2] []::za 11 (.s [2] []::.s [2] [2]::[]))) (.a))) (.a)))))))) (.a)))))) (.a)))) (.a)))))) (.a))))))
def m80:(Int×List (Int×Int×Int))→Option (List (List Int)×Int) :=
 fun x=>(m126 (x.1,x.2)).bind fun r=>bif PE.notM r then some ([],90) else (m127 (x.1,x.2)).bind fun r_1=>bif r_1 then some ([],90) else (m128 (x.1,
 x.2)).bind fun r_2=>(loopM (fun (s:Int×List (List Int))=>bif ltM s.1 x.1 then (mkM x.1 x.1 (nat_lit 8) 0).bind fun r_3=>(loopM (fun (s_1:Int ×
 List Int)=>bif ltM s_1.1 x.1 then (chkM s_1.1 (lenM s_1.2)).bind fun r_4=>(setM s_1.2 s_1.1 fun (x:Int)=>some 1152921504606846976).bind fun r_5 =>
 (loopM (fun (s_2:Int×List Int)=>bif leM s_2.1 x.1 then (chkM s_1.1 (lenM s_2.2)).bind fun r_6=>(idxM s_2.2 s_1.1).bind fun r_7=>(idxM r_2
 s_2.1).bind fun r_8=>(idxM r_8 s.1).bind fun r_9=>(idxM r_9 s_1.1).bind fun r_10=>(chkM s_1.1 (lenM s_2.2)).bind fun r_11=>(setM s_2.2 s_1.1 fun (x :
 Int)=>some (min r_7 r_10)).bind fun r=>some (Sum.inl (wrap IntKind.i64 (s_2.1+1),r)) else some (Sum.inr s_2.2)) (0,r_5)).bind fun o=>some (Sum.inl
 (wrap IntKind.i64 (s_1.1+1),o)) else some (Sum.inr s_1.2)) (0,r_3)).bind fun o=>(appM (nat_lit 24) s.2 [o]).bind fun r=>some (Sum.inl (wrap
 IntKind.i64 (s.1+1),r)) else some (Sum.inr s.2)) (0,[])).bind fun o=>some (o,0)
theorem c80:SpecOK Tryz.prog 80 ⟨as80,rs80,m80⟩ :=
 fc tabs127OK [] an80 Tryz.f80 fun x=>by kernel_rfl
def tabs80:Tabs:=Tabs.add tabs127 80 ⟨as80,rs80,m80⟩
theorem tabs80OK:TabOK Tryz.prog tabs80:=TabOK.add tabs127OK c80 Tryz.call80

/-! putlog/putlogref22.Ranges -/
def as42:List Ty:=[tD]
def rs42:List Ty:=[tQ,tI]
def an42:Ann:=.seq (.a) (.seq (.a) (.seq (.a) (.seq (.a) (.seq (.a) (.seq (.a) (.seq (.seq (.a) (.block (.loop ⟨[(9,.r (.c (.h 2))),(10,.r (.c (.d (.d tI))))],(ra 30 25 ([])),[],[.arr tP]⟩ [(.exit 0,⟨[(9,.r (.c (.h 2)))],(10::ra 30 25 ([])),[],[.arr tP]⟩)] (.seq (.a) (.seq (.block (.reg [0,0,0,6,14,0,62,126,254,0,0,1536,3584,0,15872,32256,65024,131070,262142,524287,1048575] (ra 0 21 ([])) (za 19 (.s [2] [3,2]::z0::[])) (.a))) (.a)))))) (.a)))))))
def m42:((Int×List (Int×Int))×List (Int×Int×Int×Int×Int))→Option ((List (Int×Int))×Int) :=
 fun x=>(m41 ((x.1.1,x.1.2),x.2)).bind fun r=>(m80 (r.1.1,r.1.2)).bind fun r_1=>bif PE.orM (PE.notM (eqM r.2 0)) (PE.notM (eqM r_1.2 0)) then some ([],
 220) else (loopM (fun (s:Int×List (Int×Int))=>bif ltM s.1 x.1.1 then (idxM r_1.1 s.1).bind fun r_2=>(idxM r_2 x.1.1).bind fun r_3=>(idxM r_1.1
 x.1.1).bind fun r_4=>(idxM r_4 s.1).bind fun r_5=>(appM (nat_lit 16) s.2 [(wrap IntKind.i64 (negM r_3),wrap IntKind.i64 (r_5+1))]).bind fun r=>some
 (Sum.inl (wrap IntKind.i64 (s.1+1),r)) else some (Sum.inr s.2)) (0,[])).bind fun o=>some (o,0)
theorem c42:SpecOK Tryz.prog 42 ⟨as42,rs42,m42⟩ :=
 fc tabs80OK [] an42 Tryz.f42 fun x=>by kernel_rfl
def tabs42:Tabs:=Tabs.add tabs80 42 ⟨as42,rs42,m42⟩
theorem tabs42OK:TabOK Tryz.prog tabs42:=TabOK.add tabs80OK c42 Tryz.call42

/-! putlog/putlogref09.first -/
def as129:List Ty:=[(.pair tI (.list tB)),(.list (.list tL)),tI,tI,tI,tI]
def rs129:List Ty:=[tL,.bool]
def an129:Ann:=.seq (.a) (.seq (.a) (.seq (.a) (.seq (.block (.loop ⟨[(2,.r (.c (.d (.d tI)))),(4,.r (.c (.d (.d tI)))),(5,.r (.c (.d (.d tI)))),(14,.r (.c (.h 1)))],(15::16::ra 29 64 ([])),[],[.arr tI]⟩ [(.exit 0,⟨[(14,.r (.c (.h 1)))],(2::4::5::15::16::ra 29 64 ([])),[],[.arr tI]⟩)] (.seq (.a) (.block (.seq (.seq (.a) (.block (.loop ⟨[(15,.r (.c (.d (.d tI))))],(16::ra 31 50 ([])),[],[]⟩ [(.exit 2,⟨[(2,.r (.c (.d (.d tI)))),(5,.r (.c (.d (.d tI)))),(14,.r (.c (.h 2)))],(15::16::ra 31 60 ([])),[(1,.gone)],[.arr tI]⟩)] (.seq (.a) (.seq (.block (.seq (.a) (.seq (.seq (.reg [0,1,0,7,15,31,31,95,255,511,31,1055,4095,8191,31,32767,65535,131071,262143,524287,1048575,2097151,1048575,1048575,9437183,30408703,63963135,1048575,135266303,533725183,1070596095,1048575,4291821567,8586788863,17179869183,1048575,68719476735,137438953471] (ra 0 38 ([])) (z0::.s [2] []::za 9 (.s [2] []::za 9 (.s [2] []::za 6 (.s [2] []::za 9 ([]))))) (.a)) (.a)) (.a)))) (.a)))))) (.a)))))) (.a))))
def m129:((Int×List (Int×Int×Int))×List (List (List Int))×Int×Int×Int×Int)→Option (List Int×Bool) :=
 fun x=>(idxM x.2.1 x.2.2.2.2.1).bind fun r=>(idxM r x.2.2.1).bind fun r_1=>(idxM r_1 x.2.2.2.1).bind fun r_2=>bif ltM x.2.2.2.2.2 r_2 then some ([],
 false) else (loopM (fun (s:Int×Int×Int×List Int)=>bif ltM 0 s.2.1 then (loopM (fun (s_1:Int)=>bif ltM s_1 (lenM x.1.2) then (idxM x.1.2
 s_1).bind fun r_3=>(bif PE.notM (PE.notM (eqM r_3.1 s.1)) then idxM x.2.1 (wrap IntKind.i64 (s.2.1-1)) else some []).bind fun r_4=>(bif PE.notM (PE.notM
 (eqM r_3.1 s.1)) then idxM r_4 r_3.2.1 else some []).bind fun r_5=>(bif PE.notM (PE.notM (eqM r_3.1 s.1)) then idxM r_5 x.2.2.2.1 else some 0).bind fun r_6
 => (bif PE.notM (PE.orM (PE.notM (eqM r_3.1 s.1)) (eqM r_6 1152921504606846976)) then idxM x.2.1 (wrap IntKind.i64 (s.2.1-1)) else some []).bind fun r_7 =>
 (bif PE.notM (PE.orM (PE.notM (eqM r_3.1 s.1)) (eqM r_6 1152921504606846976)) then idxM r_7 r_3.2.1 else some []).bind fun r_8=>(bif PE.notM (PE.orM
 (PE.notM (eqM r_3.1 s.1)) (eqM r_6 1152921504606846976)) then idxM r_8 x.2.2.2.1 else some 0).bind fun r_9=>bif PE.orM (PE.orM (PE.notM (eqM r_3.1 s.1))
 (eqM r_6 1152921504606846976)) (ltM s.2.2.1 (wrap IntKind.i64 (r_3.2.2+r_9))) then some (Sum.inl (wrap IntKind.i64 (s_1+1))) else (appM (nat_lit 8)
 s.2.2.2 [s_1]).bind fun r=>some (Sum.inr (r_3.2.1,wrap IntKind.i64 (s.2.2.1-r_3.2.2),r)) else some (Sum.inr (s.1,s.2.2.1,s.2.2.2))) 0).bind fun o =>
 some (Sum.inl (o.1,wrap IntKind.i64 (s.2.1-1),o.2.1,o.2.2)) else some (Sum.inr s.2.2.2)) (x.2.2.1,x.2.2.2.2.1,x.2.2.2.2.2,[])).bind fun o=>some (o,
 true)
theorem c129:SpecOK Tryz.prog 129 ⟨as129,rs129,m129⟩ :=
 fc tabs42OK [] an129 Tryz.f129 fun x=>by kernel_rfl
def tabs129:Tabs:=Tabs.add tabs42 129 ⟨as129,rs129,m129⟩
theorem tabs129OK:TabOK Tryz.prog tabs129:=TabOK.add tabs42OK c129 Tryz.call129

/-! putlog/putlogref09.Before -/
def as130:List Ty:=[tL,tL]
def rs130:List Ty:=[.bool]
def an130:Ann:=.seq (.a) (.seq (.seq (.a) (.block (.loop ⟨[(5,.r (.c (.d (.d tI))))],(ra 6 21 ([])),[],[]⟩ [(.exit 0,⟨[],(ra 5 22 ([])),[],[]⟩),(.ret,⟨[(4,.r (.c (.d (.d .bool))))],(ra 5 31 ([])),[],[]⟩)] (.seq (.a) (.seq (.block (.seq (.reg [0,0,3,7,0,0,48,112,255] (ra 0 9 ([])) (za 9 ([])) (.a)) (.cond (.seq (.reg [0,0,3,7,0,0,48,112,255,511] (ra 0 10 ([])) (za 10 ([])) (.a)) (.a)) (.a)))) (.a)))))) (.a))
def m130:(List Int×List Int)→Option (Bool) :=
 fun x=>(loopM (fun (s:Int)=>bif PE.andM (ltM s (lenM x.1)) (ltM s (lenM x.2)) then (idxM x.1 s).bind fun r=>(idxM x.2 s).bind fun r_1=>bif PE.notM
 (eqM r r_1) then (idxM x.1 s).bind fun r_2=>(idxM x.2 s).bind fun r=>some (Sum.inr (Sum.inr (ltM r_2 r))) else some (Sum.inl (wrap IntKind.i64 (s+1)))
 else some (Sum.inr (Sum.inl ()))) 0).bind fun o=>Sum.elim (fun (t:Unit)=>some false) (fun (t:Bool)=>some t) o
theorem c130:SpecOK Tryz.prog 130 ⟨as130,rs130,m130⟩ :=
 fc tabs129OK [] an130 Tryz.f130 fun x=>by kernel_rfl
def tabs130:Tabs:=Tabs.add tabs129 130 ⟨as130,rs130,m130⟩
theorem tabs130OK:TabOK Tryz.prog tabs130:=TabOK.add tabs129OK c130 Tryz.call130

/-! putlog/putlogref09.Cycle -/
def as81:List Ty:=[(.pair tI (.list tB))]
def rs81:List Ty:=[tL,.bool]
def an81:Ann:=.seq (.a) (.seq (.a) (.seq (.a) (.seq (.seq (.a) (.block (.loop ⟨[(5,.r (.c (.d (.d tI))))],(6::7::8::9::ra 15 34 ([])),[],[]⟩ [(.exit 0,⟨[],(5::6::7::8::9::ra 15 34 ([])),[],[]⟩),(.ret,⟨[(2,.r (.c (.d (.n tI)))),(3,.r (.c (.d (.d .bool))))],(5::6::7::8::9::ra 15 35 ([])),[],[]⟩)] (.seq (.a) (.seq (.block (.seq (.a) (.seq (.seq (.a) (.block (.loop ⟨[(6,.r (.c (.d (.n tI)))),(7,.r (.c (.d (.d tI))))],(8::9::ra 21 26 ([])),[],[]⟩ [(.exit 2,⟨[(6,.r (.c (.d (.n tI))))],(7::8::9::ra 21 26 ([])),[],[]⟩)] (.seq (.a) (.seq (.join [(.norm,⟨[(6,.r (.c (.d (.n tI))))],(8::9::ra 27 20 ([])),[],[]⟩)] (.a)) (.a)))))) (.a)))) (.a)))))) (.a))))
def m81:(Int×List (Int×Int×Int))→Option (List Int×Bool) :=
 fun x=>(m126 (x.1,x.2)).bind fun r=>bif PE.notM r then some ([],false) else (m128 (x.1,x.2)).bind fun r_1=>(loopM (fun (s:Int)=>bif leM s x.1 then
 (loopM (fun (s_1:Option (List Int)×Int)=>bif ltM s_1.2 x.1 then ((m129 ((x.1,x.2),r_1,s_1.2,s_1.2,s,(-1))).bind fun r_2=>(bif PE.andM r_2.2
 (PE.notM (Option.isNone s_1.1)) then m130 (r_2.1,getL s_1.1) else some false).bind fun r_3=>bif PE.andM r_2.2 (PE.orM (Option.isNone s_1.1) r_3) then (neM
 r_2.1).bind fun r=>some (some r) else some s_1.1).bind fun o=>some (Sum.inl (o,wrap IntKind.i64 (s_1.2+1))) else some (Sum.inr s_1.1)) (none,0)).bind
 fun o=>bif PE.notM (Option.isNone o) then some (Sum.inr (Sum.inr (o,true))) else some (Sum.inl (wrap IntKind.i64 (s+1))) else some (Sum.inr (Sum.inl
 ()))) 1).bind fun o=>Sum.elim (fun (t:Unit)=>some ([],false)) (fun (t:Option (List Int)×Bool)=>some (getL t.1,t.2)) o
theorem c81:SpecOK Tryz.prog 81 ⟨as81,rs81,m81⟩ :=
 fc tabs130OK [6,6] an81 Tryz.f81 fun x=>by kernel_rfl
def tabs81:Tabs:=Tabs.add tabs130 81 ⟨as81,rs81,m81⟩
theorem tabs81OK:TabOK Tryz.prog tabs81:=TabOK.add tabs130OK c81 Tryz.call81

/-! putlog/putlogref22.Blame -/
def as43:List Ty:=[tD]
def rs43:List Ty:=[tL,.bool]
def an43:Ann:=.seq (.a) (.seq (.a) (.seq (.a) (.seq (.a) (.seq (.a) (.seq (.a) (.seq (.seq (.a) (.block (.loop ⟨[(8,.r (.c (.h 2))),(9,.r (.c (.d (.d tI))))],(10::11::12::ra 27 48 ([])),[],[.arr tI]⟩ [(.exit 0,⟨[(8,.r (.c (.h 2)))],(9::10::11::12::ra 27 48 ([])),[],[.arr tI]⟩)] (.seq (.a) (.seq (.join [(.norm,⟨[(8,.r (.c (.h 3)))],(10::11::12::ra 34 41 ([])),[(2,.gone)],[.arr tI]⟩)] (.block (.seq (.a) (.seq (.seq (.a) (.block (.loop ⟨[(10,.r (.c (.d (.d .bool)))),(11,.r (.c (.d (.d tI))))],(12::ra 34 36 ([])),[],[]⟩ [(.exit 2,⟨[(10,.r (.c (.d (.d .bool))))],(11::12::ra 34 36 ([])),[],[]⟩)] (.seq (.a) (.seq (.block (.seq (.reg [0,0,3,7,0,16,48,112,255,511] (ra 0 10 ([])) (za 6 (.s [0] []::za 3 ([]))) (.a)) (.seq (.join [(.norm,⟨[(12,.r (.c (.d (.d tI))))],(ra 49 15 ([])),[],[]⟩)] (.a)) (.a)))) (.a)))))) (.a))))) (.a)))))) (.a)))))))
def m43:((Int×List (Int×Int))×List (Int×Int×Int×Int×Int))→Option (List Int×Bool) :=
 fun x=>(m41 ((x.1.1,x.1.2),x.2)).bind fun r=>bif PE.notM (eqM r.2 0) then some ([],false) else (m81 (r.1.1,r.1.2)).bind fun r_1=>bif PE.notM r_1.2
 then some ([],false) else (loopM (fun (s:Int×List Int)=>bif ltM s.1 (lenM r.1.2) then ((loopM (fun (s_1:Bool×Int)=>bif ltM s_1.2 (lenM r_1.1)
 then (idxM r_1.1 s_1.2).bind fun r_2=>(bif leM (wrap IntKind.i64 (2*lenM x.2)) (wrap IntKind.i64 (r_2-wrap IntKind.i64 (2*x.1.1))) then some (wrap
 IntKind.i64 (wrap IntKind.i64 (r_2-wrap IntKind.i64 (2*x.1.1))-lenM x.2)) else bif leM 0 (wrap IntKind.i64 (r_2-wrap IntKind.i64 (2*x.1.1))) then
 (divM IntKind.i64 (wrap IntKind.i64 (r_2-wrap IntKind.i64 (2*x.1.1))) 2).bind fun r=>some r else some (wrap IntKind.i64 (r_2-wrap IntKind.i64 (2 *
 x.1.1)))).bind fun o=>some (Sum.inl (PE.orM s_1.1 (eqM o s.1),wrap IntKind.i64 (s_1.2+1))) else some (Sum.inr s_1.1)) (false,0)).bind fun o=>bif o
 then (appM (nat_lit 8) s.2 [s.1]).bind fun r=>some r else some s.2).bind fun o=>some (Sum.inl (wrap IntKind.i64 (s.1+1),o)) else some (Sum.inr s.2))
 (0,[])).bind fun o=>some (o,true)
theorem c43:SpecOK Tryz.prog 43 ⟨as43,rs43,m43⟩ :=
 fc tabs81OK [] an43 Tryz.f43 fun x=>by kernel_rfl
def tabs43:Tabs:=Tabs.add tabs81 43 ⟨as43,rs43,m43⟩
theorem tabs43OK:TabOK Tryz.prog tabs43:=TabOK.add tabs81OK c43 Tryz.call43

/-! putlog/putlogref22.asked -/
def as82:List Ty:=[tD,tI,tI,tI]
def rs82:List Ty:=[.bool]
def an82:Ann:=.a
def m82:(((Int×List (Int×Int))×List (Int×Int×Int×Int×Int))×Int×Int×Int)→Option (Bool) :=
 fun x=>(m38 (x.2.1,0,wrap IntKind.i64 (x.1.1.1-1))).bind fun r=>(bif r then m38 (x.2.2.1,0,wrap IntKind.i64 (x.1.1.1-1)) else some false).bind fun
 r_1=>(bif PE.andM r r_1 then m38 (x.2.2.2,(-2100),2100) else some false).bind fun r_2=>some (PE.andM (PE.andM r r_1) r_2)
theorem c82:SpecOK Tryz.prog 82 ⟨as82,rs82,m82⟩ :=
 fc tabs43OK [] an82 Tryz.f82 fun x=>by kernel_rfl
def tabs82:Tabs:=Tabs.add tabs43 82 ⟨as82,rs82,m82⟩
theorem tabs82OK:TabOK Tryz.prog tabs82:=TabOK.add tabs43OK c82 Tryz.call82

/-! putlog/putlogref09.Implied -/
def as83:List Ty:=[(.pair tI (.list tB)),tB]
def rs83:List Ty:=[tL,.bool]
def an83:Ann:=.seq (.a) (.seq (.a) (.seq (.a) (.seq (.a) (.seq (.seq (.a) (.block (.loop ⟨[(7,.r (.c (.d (.d tI))))],(8::9::ra 24 20 ([])),[],[]⟩ [(.exit 0,⟨[],(7::8::9::ra 24 20 ([])),[],[]⟩),(.ret,⟨[(4,.r (.c (.d (.d tL)))),(5,.r (.c (.d (.d .bool))))],(7::8::9::ra 24 21 ([])),[],[]⟩)] (.a)))) (.a)))))
def m83:((Int×List (Int×Int×Int))×Int×Int×Int)→Option (List Int×Bool) :=
 fun x=>(m126 (x.1.1,x.1.2)).bind fun r=>(bif PE.notM (PE.notM r) then m131 (x.1.1,x.2.1,x.2.2.1,x.2.2.2) else some false).bind fun r_1=>bif PE.orM
 (PE.notM r) (PE.notM r_1) then some ([],false) else (m127 (x.1.1,x.1.2)).bind fun r_2=>bif r_2 then some ([],false) else (m128 (x.1.1,x.1.2)).bind fun
 r_3=>(loopM (fun (s:Int)=>bif leM s x.1.1 then (m129 ((x.1.1,x.1.2),r_3,x.2.1,x.2.2.1,s,x.2.2.2)).bind fun r=>bif r.2 then some (Sum.inr
 (Sum.inr (r.1,true))) else some (Sum.inl (wrap IntKind.i64 (s+1))) else some (Sum.inr (Sum.inl ()))) 0).bind fun o=>Sum.elim (fun (t:Unit)=>some ([],
 false)) (fun (t:List Int×Bool)=>some (t.1,t.2)) o
theorem c83:SpecOK Tryz.prog 83 ⟨as83,rs83,m83⟩ :=
 fc tabs82OK [] an83 Tryz.f83 fun x=>by kernel_rfl
def tabs83:Tabs:=Tabs.add tabs82 83 ⟨as83,rs83,m83⟩
theorem tabs83OK:TabOK Tryz.prog tabs83:=TabOK.add tabs82OK c83 Tryz.call83

/-! putlog/putlogref22.Certain -/
def as44:List Ty:=[tD,tI,tI,tI]
def rs44:List Ty:=[tL,.bool]
def an44:Ann:=.a
def m44:(((Int×List (Int×Int))×List (Int×Int×Int×Int×Int))×Int×Int×Int)→Option (List Int×Bool) :=
 fun x=>(m41 ((x.1.1.1,x.1.1.2),x.1.2)).bind fun r=>(bif PE.notM (PE.notM (eqM r.2 0)) then m82 (((x.1.1.1,x.1.1.2),x.1.2),x.2.1,x.2.2.1,x.2.2.2) else
 some false).bind fun r_1=>bif PE.orM (PE.notM (eqM r.2 0)) (PE.notM r_1) then some ([],false) else (m83 ((r.1.1,r.1.2),x.2.2.1,x.2.1,wrap IntKind.i64
 (negM x.2.2.2))).bind fun r=>some (r.1,r.2)
theorem c44:SpecOK Tryz.prog 44 ⟨as44,rs44,m44⟩ :=
 fc tabs83OK [] an44 Tryz.f44 fun x=>by kernel_rfl
def tabs44:Tabs:=Tabs.add tabs83 44 ⟨as44,rs44,m44⟩
theorem tabs44OK:TabOK Tryz.prog tabs44:=TabOK.add tabs83OK c44 Tryz.call44

/-! putlog/putlogref22.Allowed -/
def as46:List Ty:=[tD,tL]
def rs46:List Ty:=[.bool]
def an46:Ann:=.seq (.a) (.seq (.a) (.seq (.seq (.a) (.block (.loop ⟨[(5,.r (.c (.d (.d tI))))],(ra 22 12 ([])),[],[]⟩ [(.exit 0,⟨[],(5::ra 22 12 ([])),[],[]⟩),(.ret,⟨[(4,.r (.c (.d (.d .bool))))],(5::ra 22 12 ([])),[],[]⟩)] (.a)))) (.seq (.seq (.a) (.block (.loop ⟨[(6,.r (.c (.d (.d tI))))],(ra 34 29 ([])),[],[]⟩ [(.exit 2,⟨[],(6::ra 34 29 ([])),[],[]⟩),(.ret,⟨[(4,.r (.c (.d (.d .bool))))],(6::ra 34 29 ([])),[],[]⟩)] (.seq (.a) (.seq (.block (.seq (.reg [0,0,2,6,0,30,62,126,255,511,0,0,2048,6144,0,30720,63488,129024,261120,523264,1048575] (ra 0 21 ([])) (za 3 (.s [0] []::za 9 (.s [0] []::za 7 ([])))) (.a)) (.a))) (.a)))))) (.seq (.seq (.a) (.block (.loop ⟨[(7,.r (.c (.d (.d tI))))],(8::9::10::ra 63 68 ([])),[],[]⟩ [(.exit 4,⟨[],(7::8::9::10::ra 63 68 ([])),[],[]⟩),(.ret,⟨[(4,.r (.c (.d (.d .bool))))],(7::8::9::10::ra 63 68 ([])),[],[]⟩)] (.seq (.a) (.seq (.block (.seq (.a) (.seq (.a) (.seq (.a) (.seq (.join [(.norm,⟨[(10,.r (.c (.d (.d .bool))))],(ra 80 49 ([])),[],[]⟩)] (.seq (.a) (.block (.seq (.a) (.cond (.a) (.seq (.a) (.cond (.a) (.seq (.a) (.cond (.a) (.seq (.a) (.cond (.a) (.seq (.a) (.cond (.reg [0,0,2,7,15,0,63,0,128,0,512,2047,4095] (ra 0 13 ([])) (z0::z0::.s [1] []::za 5 (.s [1] []::z0::.s [1] []::z0::z0::[])) (.a)) (.a)))))))))))))) (.a)))))) (.a)))))) (.a)))))
def m46:(((Int×List (Int×Int))×List (Int×Int×Int×Int×Int))×List Int)→Option (Bool) :=
 fun x=>(m45 ((x.1.1.1,x.1.1.2),x.1.2)).bind fun r=>bif PE.orM (PE.notM r) (PE.notM (eqM (lenM x.2) x.1.1.1)) then some false else (loopM (fun (s:Int) =>
 bif ltM s (lenM x.2) then (idxM x.2 s).bind fun r_1=>(m38 (r_1,0,2100)).bind fun r=>bif PE.notM r then some (Sum.inr (Sum.inr false)) else some (Sum.inl
 (wrap IntKind.i64 (s+1))) else some (Sum.inr (Sum.inl ()))) 0).bind fun o=>Sum.elim (fun (t:Unit)=>(loopM (fun (s:Int)=>bif ltM s (lenM x.1.1.2)
 then (idxM x.1.1.2 s).bind fun r_1=>(idxM x.2 r_1.1).bind fun r_2=>(idxM x.1.1.2 s).bind fun r_3=>(idxM x.2 r_3.2).bind fun r=>bif ltM r r_2 then some
 (Sum.inr (Sum.inr false)) else some (Sum.inl (wrap IntKind.i64 (s+1))) else some (Sum.inr (Sum.inl ()))) 0).bind fun o=>Sum.elim (fun (t:Unit)=>(loopM
 (fun (s:Int)=>bif ltM s (lenM x.1.2) then (idxM x.1.2 s).bind fun r_1=>(idxM x.2 r_1.2.1).bind fun r_2=>(bif eqM r_1.1 1 then some (PE.andM (leM
 r_1.2.2.2.1 r_2) (ltM r_2 r_1.2.2.2.2)) else bif eqM r_1.1 2 then some (leM r_1.2.2.2.1 r_2) else bif eqM r_1.1 3 then some (leM r_2 r_1.2.2.2.1) else bif eqM
 r_1.1 4 then (idxM x.2 r_1.2.2.1).bind fun r=>some (eqM r_2 r) else bif eqM r_1.1 5 then (idxM x.2 r_1.2.2.1).bind fun r_3=>(m38 (wrap IntKind.i64 (r_3 -
 r_2),r_1.2.2.2.1,r_1.2.2.2.2)).bind fun r=>some r else some false).bind fun o=>bif PE.notM o then some (Sum.inr (Sum.inr false)) else some (Sum.inl
 (wrap IntKind.i64 (s+1))) else some (Sum.inr (Sum.inl ()))) 0).bind fun o=>Sum.elim (fun (t:Unit)=>some true) (fun (t:Bool)=>some t) o) (fun (t :
 Bool)=>some t) o) (fun (t:Bool)=>some t) o
theorem c46:SpecOK Tryz.prog 46 ⟨as46,rs46,m46⟩ :=
 fc tabs44OK [] an46 Tryz.f46 fun x=>by kernel_rfl
def tabs46:Tabs:=Tabs.add tabs44 46 ⟨as46,rs46,m46⟩
theorem tabs46OK:TabOK Tryz.prog tabs46:=TabOK.add tabs44OK c46 Tryz.call46

/-! putlog/putlogref22.SameBounds -/
def as47:List Ty:=[(.pair tI (.list tB)),(.pair tI (.list tB))]
def rs47:List Ty:=[.bool]
def an47:Ann:=.seq (.a) (.seq (.a) (.seq (.seq (.a) (.block (.loop ⟨[(5,.r (.c (.d (.d tI))))],(ra 20 18 ([])),[],[]⟩ [(.exit 0,⟨[],(5::ra 20 18 ([])),[],[]⟩),(.ret,⟨[(4,.r (.c (.d (.d .bool))))],(5::ra 20 18 ([])),[],[]⟩)] (.seq (.a) (.seq (.block (.seq (.reg [0,1,0,7,15,0,32,0,224,480,1023] (ra 0 11 ([])) (z0::.s [0] []::za 4 (.s [1] []::za 4 ([]))) (.a)) (.a))) (.a)))))) (.a)))
def m47:((Int×List (Int×Int×Int))×Int×List (Int×Int×Int))→Option (Bool) :=
 fun x=>bif PE.orM (PE.notM (eqM x.1.1 x.2.1)) (PE.notM (eqM (lenM x.1.2) (lenM x.2.2))) then some false else (loopM (fun (s:Int)=>bif ltM s (lenM x.1.2)
 then (idxM x.1.2 s).bind fun r=>(idxM x.2.2 s).bind fun r_1=>bif PE.notM (PE.andM (eqM r.1 r_1.1) (PE.andM (eqM r.2.1 r_1.2.1) (eqM r.2.2 r_1.2.2))) then
 some (Sum.inr (Sum.inr false)) else some (Sum.inl (wrap IntKind.i64 (s+1))) else some (Sum.inr (Sum.inl ()))) 0).bind fun o=>Sum.elim (fun (t:Unit) =>
 some true) (fun (t:Bool)=>some t) o
theorem c47:SpecOK Tryz.prog 47 ⟨as47,rs47,m47⟩ :=
 fc tabs46OK [] an47 Tryz.f47 fun x=>by kernel_rfl
def tabs47:Tabs:=Tabs.add tabs46 47 ⟨as47,rs47,m47⟩
theorem tabs47OK:TabOK Tryz.prog tabs47:=TabOK.add tabs46OK c47 Tryz.call47

/-! putlog/putlogref09.follow -/
def as132:List Ty:=[(.pair tI (.list tB)),tI,tL]
def rs132:List Ty:=[tI,tI,.bool]
def an132:Ann:=.seq (.a) (.seq (.a) (.seq (.seq (.a) (.block (.loop ⟨[(1,.r (.c (.d (.d tI)))),(9,.r (.c (.d (.d tI)))),(10,.r (.c (.d (.d tI))))],(ra 11 40 ([])),[],[]⟩ [(.exit 0,⟨[(1,.r (.c (.d (.d tI)))),(9,.r (.c (.d (.d tI))))],(ra 10 41 ([])),[],[]⟩),(.ret,⟨[(6,.r (.c (.d (.d tI)))),(7,.r (.c (.d (.d tI)))),(8,.r (.c (.d (.d .bool))))],(1::ra 9 42 ([])),[],[]⟩)] (.seq (.a) (.seq (.block (.seq (.seq (.reg [0,0,3,7,0,16,48,112,255,511,1023,2047,4095,8191,16383] (ra 0 15 ([])) (za 5 (.s [0] []::za 9 ([]))) (.a)) (.a)) (.seq (.reg [0,1,0,0,12,28,63,127,0,511] (ra 0 10 ([])) (z0::.s [0] []::za 6 (.s [] [1]::.s [1] [1]::[])) (.a)) (.a)))) (.a)))))) (.a)))
def m132:((Int×List (Int×Int×Int))×Int×List Int)→Option (Int×Int×Bool) :=
 fun x=>(loopM (fun (s:Int×Int×Int)=>bif ltM s.2.2 (lenM x.2.2) then (idxM x.2.2 s.2.2).bind fun r=>(m165 (r,0,wrap IntKind.i64 (lenM x.1.2 -
 1))).bind fun r_1=>bif PE.orM (PE.notM r_1) (ltM 60 (lenM x.2.2)) then some (Sum.inr (Sum.inr (0,0,false))) else (idxM x.2.2 s.2.2).bind fun r_2=>(idxM
 x.1.2 r_2).bind fun r=>bif PE.notM (eqM r.1 s.1) then some (Sum.inr (Sum.inr (0,0,false))) else some (Sum.inl (r.2.1,wrap IntKind.i64 (s.2.1+r.2.2),
 wrap IntKind.i64 (s.2.2+1))) else some (Sum.inr (Sum.inl (s.1,s.2.1)))) (x.2.1,0,0)).bind fun o=>Sum.elim (fun (t:Int×Int)=>some (t.1,t.2,
 true)) (fun (t:Int×Int×Bool)=>some (t.1,t.2.1,t.2.2)) o
theorem c132:SpecOK Tryz.prog 132 ⟨as132,rs132,m132⟩ :=
 fc tabs47OK [] an132 Tryz.f132 fun x=>by kernel_rfl
def tabs132:Tabs:=Tabs.add tabs47 132 ⟨as132,rs132,m132⟩
theorem tabs132OK:TabOK Tryz.prog tabs132:=TabOK.add tabs47OK c132 Tryz.call132

/-! putlog/putlogref09.CheckChain -/
def as85:List Ty:=[(.pair tI (.list tB)),tB,tL]
def rs85:List Ty:=[.bool]
def an85:Ann:=.a
def m85:((Int×List (Int×Int×Int))×(Int×Int×Int)×List Int)→Option (Bool) :=
 fun x=>(m126 (x.1.1,x.1.2)).bind fun r=>(bif PE.notM (PE.notM r) then m131 (x.1.1,x.2.1.1,x.2.1.2.1,x.2.1.2.2) else some false).bind fun r_1=>bif
 PE.orM (PE.notM r) (PE.notM r_1) then some false else (m132 ((x.1.1,x.1.2),x.2.1.1,x.2.2)).bind fun r=>some (PE.andM (PE.andM r.2.2 (eqM r.1 x.2.1.2.1))
 (leM r.2.1 x.2.1.2.2))
theorem c85:SpecOK Tryz.prog 85 ⟨as85,rs85,m85⟩ :=
 fc tabs132OK [] an85 Tryz.f85 fun x=>by kernel_rfl
def tabs85:Tabs:=Tabs.add tabs132 85 ⟨as85,rs85,m85⟩
theorem tabs85OK:TabOK Tryz.prog tabs85:=TabOK.add tabs132OK c85 Tryz.call85

/-! putlog/putlogref22.Check -/
def as48:List Ty:=[tD,tI,tI,tI,tL]
def rs48:List Ty:=[.bool]
def an48:Ann:=.a
def m48:(((Int×List (Int×Int))×List (Int×Int×Int×Int×Int))×Int×Int×Int×List Int)→Option (Bool) :=
 fun x=>(m41 ((x.1.1.1,x.1.1.2),x.1.2)).bind fun r=>(bif eqM r.2 0 then m82 (((x.1.1.1,x.1.1.2),x.1.2),x.2.1,x.2.2.1,x.2.2.2.1) else some false).bind
 fun r_1=>(bif PE.andM (eqM r.2 0) r_1 then m85 ((r.1.1,r.1.2),(x.2.2.1,x.2.1,wrap IntKind.i64 (negM x.2.2.2.1)),x.2.2.2.2) else some false).bind fun
 r_2=>some (PE.andM (PE.andM (eqM r.2 0) r_1) r_2)
theorem c48:SpecOK Tryz.prog 48 ⟨as48,rs48,m48⟩ :=
 fc tabs85OK [] an48 Tryz.f48 fun x=>by kernel_rfl
def tabs48:Tabs:=Tabs.add tabs85 48 ⟨as48,rs48,m48⟩
theorem tabs48OK:TabOK Tryz.prog tabs48:=TabOK.add tabs85OK c48 Tryz.call48

/-! putlog/putloglaw22.agree -/
def as14:List Ty:=[tD,tL,tI,tI,tI,tL]
def rs14:List Ty:=[.bool]
def an14:Ann:=.seq (.a) (.seq (.a) (.seq (.a) (.seq (.a) (.seq (.a) (.seq (.a) (.seq (.a) (.seq (.a) (.seq (.a) (.seq (.reg [0,1,0,7,15,31,63,63,255,63,63,2047,4095,8191,16383,32767,32767,131071,262143,524287,1048575,1048575,4194303,8388607,16777215,33554431,33554431,134217727,268435455,536870911,1073741823,1073741823,4294967295,8589934591,17179869183,34359738367,34359738367,137438953471,274877906943,549755813887,1099511627775,1099511627775,4398046511103,8796093022207,17592186044415,35184372088831,35184372088831,140737488355327,281474976710655,562949953421311,1125899906842623,1125899906842623,4503599627370495,9007199254740991,18014398509481983,36028797018963967,36028797018963967,36028797018963967,36028797018963967,36028797018963967,1152921504606846975,36028797018963967,36028797018963967,36028797018963967,36028797018963967,36028797018963967,73786976294838206463,147573952589676412927,295147905179352825855,590295810358705651711,1180591620717411303423,1180591620717411303423,1180591620717411303423,1180591620717411303423,1180591620717411303423,37778931862957161709567,1180591620717411303423,1180591620717411303423,1180591620717411303423,1180591620717411303423,1180591620717411303423,2417851639229258349412351,4835703278458516698824703,9671406556917033397649407,19342813113834066795298815] (ra 0 85 ([])) (.s [0] []::z0::.s [0] []::za 3 (.s [0] []::z0::z0::.s [0] []::za 10 (.s [1] []::.s [2] []::za 33 (.s [0] []::za 5 (.s [0] []::za 8 (.s [0] []::za 5 (.s [0] []::za 8 ([])))))))) (.a)) (.a))))))))))
def m14:(((Int×List (Int×Int))×List (Int×Int×Int×Int×Int))×List Int×Int×Int×Int×List Int)→Option (Bool) :=
 fun x=>(m24 ((x.1.1.1,x.1.1.2),x.1.2)).bind fun r=>(m41 ((x.1.1.1,x.1.1.2),x.1.2)).bind fun r_1=>(m17 ((x.1.1.1,x.1.1.2),x.1.2)).bind fun r_2 =>
 (m42 ((x.1.1.1,x.1.1.2),x.1.2)).bind fun r_3=>(m16 ((x.1.1.1,x.1.1.2),x.1.2)).bind fun r_4=>(m43 ((x.1.1.1,x.1.1.2),x.1.2)).bind fun r_5=>(m23
 (((x.1.1.1,x.1.1.2),x.1.2),x.2.2.1,x.2.2.2.1,x.2.2.2.2.1)).bind fun r_6=>(m44 (((x.1.1.1,x.1.1.2),x.1.2),x.2.2.1,x.2.2.2.1,x.2.2.2.2.1)).bind fun
 r_7=>(m20 ((x.1.1.1,x.1.1.2),x.1.2)).bind fun r_8=>(m45 ((x.1.1.1,x.1.1.2),x.1.2)).bind fun r_9=>(bif eqbM r_8 r_9 then m18 (((x.1.1.1,x.1.1.2),
 x.1.2),x.2.1) else some false).bind fun r_10=>(bif eqbM r_8 r_9 then m46 (((x.1.1.1,x.1.1.2),x.1.2),x.2.1) else some false).bind fun r_11=>(bif
 PE.andM (PE.andM (eqbM r_8 r_9) (eqbM r_10 r_11)) (eqM r.2 r_1.2) then m47 ((r.1.1,r.1.2),r_1.1.1,r_1.1.2) else some false).bind fun r_12=>(bif PE.andM
 (PE.andM (PE.andM (PE.andM (eqbM r_8 r_9) (eqbM r_10 r_11)) (eqM r.2 r_1.2)) r_12) (eqM r_2.2 r_3.2) then m33 (r_2.1,r_3.1) else some false).bind fun r_13 =>
 (bif PE.andM (PE.andM (PE.andM (PE.andM (PE.andM (PE.andM (eqbM r_8 r_9) (eqbM r_10 r_11)) (eqM r.2 r_1.2)) r_12) (eqM r_2.2 r_3.2)) r_13) (eqbM r_4.2 r_5.2)
 then m34 (r_4.1,r_5.1) else some false).bind fun r_14=>(bif PE.andM (PE.andM (PE.andM (PE.andM (PE.andM (PE.andM (PE.andM (PE.andM (eqbM r_8 r_9) (eqbM
 r_10 r_11)) (eqM r.2 r_1.2)) r_12) (eqM r_2.2 r_3.2)) r_13) (eqbM r_4.2 r_5.2)) r_14) (eqbM r_6.2 r_7.2) then m34 (r_6.1,r_7.1) else some false).bind fun
 r_15=>(bif PE.andM (PE.andM (PE.andM (PE.andM (PE.andM (PE.andM (PE.andM (PE.andM (PE.andM (eqbM r_8 r_9) (eqbM r_10 r_11)) (eqM r.2 r_1.2)) r_12) (eqM
 r_2.2 r_3.2)) r_13) (eqbM r_4.2 r_5.2)) r_14) (eqbM r_6.2 r_7.2)) r_15 then m26 (((x.1.1.1,x.1.1.2),x.1.2),x.2.2.1,x.2.2.2.1,x.2.2.2.2.1,x.2.2.2.2.2)
 else some false).bind fun r_16=>(bif PE.andM (PE.andM (PE.andM (PE.andM (PE.andM (PE.andM (PE.andM (PE.andM (PE.andM (eqbM r_8 r_9) (eqbM r_10 r_11)) (eqM
 r.2 r_1.2)) r_12) (eqM r_2.2 r_3.2)) r_13) (eqbM r_4.2 r_5.2)) r_14) (eqbM r_6.2 r_7.2)) r_15 then m48 (((x.1.1.1,x.1.1.2),x.1.2),x.2.2.1,x.2.2.2.1,
 x.2.2.2.2.1,x.2.2.2.2.2) else some false).bind fun r_17=>(bif PE.andM (PE.andM (PE.andM (PE.andM (PE.andM (PE.andM (PE.andM (PE.andM (PE.andM (PE.andM
 (eqbM r_8 r_9) (eqbM r_10 r_11)) (eqM r.2 r_1.2)) r_12) (eqM r_2.2 r_3.2)) r_13) (eqbM r_4.2 r_5.2)) r_14) (eqbM r_6.2 r_7.2)) r_15) (eqbM r_16 r_17) then m26
 (((x.1.1.1,x.1.1.2),x.1.2),x.2.2.1,x.2.2.2.1,x.2.2.2.2.1,r_7.1) else some false).bind fun r_18=>(bif PE.andM (PE.andM (PE.andM (PE.andM (PE.andM
 (PE.andM (PE.andM (PE.andM (PE.andM (PE.andM (eqbM r_8 r_9) (eqbM r_10 r_11)) (eqM r.2 r_1.2)) r_12) (eqM r_2.2 r_3.2)) r_13) (eqbM r_4.2 r_5.2)) r_14) (eqbM
 r_6.2 r_7.2)) r_15) (eqbM r_16 r_17) then m48 (((x.1.1.1,x.1.1.2),x.1.2),x.2.2.1,x.2.2.2.1,x.2.2.2.2.1,r_7.1) else some false).bind fun r_19=>some
 (PE.andM (PE.andM (PE.andM (PE.andM (PE.andM (PE.andM (PE.andM (PE.andM (PE.andM (PE.andM (PE.andM (eqbM r_8 r_9) (eqbM r_10 r_11)) (eqM r.2 r_1.2)) r_12)
 (eqM r_2.2 r_3.2)) r_13) (eqbM r_4.2 r_5.2)) r_14) (eqbM r_6.2 r_7.2)) r_15) (eqbM r_16 r_17)) (eqbM r_18 r_19))
theorem c14:SpecOK Tryz.prog 14 ⟨as14,rs14,m14⟩ :=
 fc tabs48OK [] an14 Tryz.f14 fun x=>by kernel_rfl
def tabs14:Tabs:=Tabs.add tabs48 14 ⟨as14,rs14,m14⟩
theorem tabs14OK:TabOK Tryz.prog tabs14:=TabOK.add tabs48OK c14 Tryz.call14

/-! putlog/putlogref15.Bent -/
def as49:List Ty:=[tO,tI,tI,tI]
def rs49:List Ty:=[tO]
def an49:Ann:=.seq (.a) (.seq (.a) (.seq (.a) (.seq (.a) (.seq (.join [(.norm,⟨[],(ra 32 50 ([])),[(0,.box [.d (.d tI),.h 3]),(2,.gone)],[.arr tP]⟩)] (.seq (.a) (.block (.seq (.a) (.cond (.reg [0,1,0,0,8,24,0,7,255,511] (ra 0 10 ([])) (z0::.s [0] []::za 5 (.s [2] []::.s [2] []::.s [2] [2]::[])) (.a)) (.seq (.a) (.cond (.reg [0,1,0,4,0,28,60,124,0,256,0,1792,3840,7936,16380,32764,65535,131071,262143] (ra 0 19 ([])) [z0,.s [0] [],z0,.s [0] [],z0,.s [2] [],z0,.s [2] [],z0,.s [0] [],z0,.s [2] [],z0,.s [2] [],z0,z0,.s [2] [3,2],z0,.s [0,3] [0]] (.a)) (.block (.loop ⟨[],(ra 34 17 ([])),[(0,.box [.d (.d tI),.h 3]),(2,.gone)],[.arr tP]⟩ [(.exit 1,⟨[],(ra 34 17 ([])),[(0,.box [.d (.d tI),.h 3]),(2,.gone)],[.arr tP]⟩)] (.seq (.seq (.reg [0,1,3,0,8,24,63] (ra 0 7 ([])) (z0::.s [0] []::.s [3] []::za 4 ([])) (.a)) (.a)) (.block (.reg [0,1,0,4,0,28,60,124,255,511,1023] (ra 0 11 ([])) [z0,.s [0] [],z0,.s [0] [],z0,.s [3] [],.s [3] [],z0,.s [3] [4,3],z0,.s [0,4] [0]] (.a))))))))))))) (.a)))))
def m49:((Int×List (Int×Int))×Int×Int×Int)→Option (Int×List (Int×Int)) :=
 fun x=>(appM (nat_lit 16) [] x.1.2).bind fun r=>(m86 (x.2.1,4)).bind fun r_1=>bif PE.orM (eqM r_1 0) (eqM (lenM r) 0) then some (x.2.2.1,r) else (m86
 (x.2.2.2,lenM r)).bind fun r_2=>((m86 (x.2.1,4)).bind fun r_3=>bif eqM r_3 1 then (divM IntKind.i64 x.2.2.2 8).bind fun r_4=>(m86 (r_4,2)).bind fun
 r_5=>(chkM r_2 (lenM r)).bind fun r_6=>(chkM r_5 ↑(nat_lit 2)).bind fun r_7=>(setM r r_2 fun (x_1:Int×Int)=>bif eqM (↑(nat_lit 0)+r_5 *
 ↑(nat_lit 1)) ↑(nat_lit 1) then some (x_1.1,x.2.2.1) else bif eqM (↑(nat_lit 0)+r_5*↑(nat_lit 1)) ↑(nat_lit 0) then some (x.2.2.1,x_1.2) else none).bind
 fun r=>some (x.1.1,r) else bif eqM r_3 2 then (chkM r_2 (lenM r)).bind fun r_4=>((idxM r r_2).bind fun (x:Int×Int)=>some x.2).bind fun r_5=>(chkM
 r_2 (lenM r)).bind fun r_6=>((idxM r r_2).bind fun (x:Int×Int)=>some x.1).bind fun r_7=>(appM (nat_lit 16) r [(r_5,r_7)]).bind fun r=>some
 (x.1.1,r) else (loopM (fun (s:Int×List (Int×Int))=>(m86 (x.2.2.1,4)).bind fun r_4=>bif ltM (lenM s.2) (wrap IntKind.i64 (27+r_4)) then (chkM r_2
 (lenM s.2)).bind fun r_5=>(idxM s.2 r_2).bind fun r_6=>(appM (nat_lit 16) s.2 [(r_6.1,r_6.2)]).bind fun r=>some (Sum.inl (s.1,r)) else some (Sum.inr
 (s.1,s.2))) (x.1.1,r)).bind fun o=>some (o.1,o.2)).bind fun o=>some (o.1,o.2)
theorem c49:SpecOK Tryz.prog 49 ⟨as49,rs49,m49⟩ :=
 fc tabs14OK [] an49 Tryz.f49 fun x=>by kernel_rfl
def tabs49:Tabs:=Tabs.add tabs14 49 ⟨as49,rs49,m49⟩
theorem tabs49OK:TabOK Tryz.prog tabs49:=TabOK.add tabs14OK c49 Tryz.call49

/-! putlog/putlogref22.Bent -/
def as15:List Ty:=[tD,tI,tI,tI]
def rs15:List Ty:=[tD]
def an15:Ann:=.seq (.a) (.seq (.a) (.seq (.a) (.seq (.reg [0,1,0,0,8,24,60,127,255] (ra 0 9 ([])) [z0,.s [0] [],z0,z0,.s [0] [],.s [2] [],z0,.s [2] [],z0] (.a)) (.seq (.join [(.norm,⟨[],(ra 41 30 ([])),[(2,.arr tC)],[]⟩)] (.a)) (.a)))))
def m15:(((Int×List (Int×Int))×List (Int×Int×Int×Int×Int))×Int×Int×Int)→Option ((Int×List (Int×Int))×List (Int×Int×Int×Int×Int)) :=
 fun x=>(appM (nat_lit 40) [] x.1.2).bind fun r=>(bif PE.notM (eqM (lenM r) 0) then m37 (x.2.1,6) else some 0).bind fun r_1=>bif PE.orM (eqM (lenM r) 0)
 (eqM r_1 5) then (divM IntKind.i64 x.2.2.2 4).bind fun r_2=>(m49 ((x.1.1.1,x.1.1.2),x.2.2.2,x.2.2.1,r_2)).bind fun r_3=>some ((r_3.1,r_3.2),r) else
 (m37 (x.2.2.2,lenM r)).bind fun r_2=>(chkM r_2 (lenM r)).bind fun r_3=>((m37 (x.2.1,6)).bind fun r_4=>bif eqM r_4 0 then (setM r r_2 fun (x_1:Int ×
 Int×Int×Int×Int)=>some (x.2.2.1,x_1.2)).bind fun r=>some r else bif eqM r_4 1 then (setM r r_2 fun (x_1:Int×Int×Int×Int×Int)=>some
 (x_1.1,x.2.2.1,x_1.2.2)).bind fun r=>some r else bif eqM r_4 2 then (setM r r_2 fun (x_1:Int×Int×Int×Int×Int)=>some (x_1.1,x_1.2.1,x.2.2.1,
 x_1.2.2.2)).bind fun r=>some r else bif eqM r_4 3 then (setM r r_2 fun (x_1:Int×Int×Int×Int×Int)=>some (x_1.1,x_1.2.1,x_1.2.2.1,x.2.2.1,
 x_1.2.2.2.2)).bind fun r=>some r else (setM r r_2 fun (x_1:Int×Int×Int×Int×Int)=>some (x_1.1,x_1.2.1,x_1.2.2.1,x_1.2.2.2.1,x.2.2.1)).bind
 fun r=>some r).bind fun o=>some ((x.1.1.1,x.1.1.2),o)
theorem c15:SpecOK Tryz.prog 15 ⟨as15,rs15,m15⟩ :=
 fc tabs49OK [] an15 Tryz.f15 fun x=>by kernel_rfl
def tabs15:Tabs:=Tabs.add tabs49 15 ⟨as15,rs15,m15⟩
theorem tabs15OK:TabOK Tryz.prog tabs15:=TabOK.add tabs49OK c15 Tryz.call15

/-! putlog/putloglaw22.DatingMatchesReference -/
def as3:List Ty:=[(.pair tI (.pair tQ (.pair tI (.pair tI (.pair tL (.pair (.list tC) tB)))))),tB,tD,tL,tI,tI,tI,tL]
def rs3:List Ty:=[.bool]
def an3:Ann:=.seq (.a) (.seq (.a) (.seq (.a) (.seq (.a) (.seq (.a) (.seq (.a) (.seq (.a) (.seq (.reg [0,1,3,0,8,24,0,64,192,448,960,2040,4095,0,8192,0,32768,98304,229376,516096,1048575,0,4194303] (ra 0 23 ([])) (z0::z0::.s [2] []::z0::z0::.s [2] []::z0::z0::.s [2] []::za 5 (.s [2] []::z0::.s [2] []::za 4 (.s [] [4]::.s [4] [4]::[]))) (.a)) (.a))))))))
def m3:((Int×(List (Int×Int))×Int×Int×List Int×(List (Int×Int×Int×Int×Int))×Int×Int×Int)×(Int×Int×Int)×((Int×List (Int×Int))×List (Int×Int×Int×Int×Int))×List Int×Int×Int×Int×List Int)→Option (Bool) :=
 fun x=>(m10 ()).bind fun r=>bif PE.notM r then some false else (m11 (x.1.1,x.1.2.1,x.1.2.2.1,x.1.2.2.2.1,x.1.2.2.2.2.1,x.1.2.2.2.2.2.1,
 x.1.2.2.2.2.2.2.1,x.1.2.2.2.2.2.2.2.1,x.1.2.2.2.2.2.2.2.2)).bind fun r_1=>(m12 (x.1.1,x.1.2.1,x.1.2.2.1,x.1.2.2.2.1,x.1.2.2.2.2.1,x.1.2.2.2.2.2.1,
 x.1.2.2.2.2.2.2.1,x.1.2.2.2.2.2.2.2.1,x.1.2.2.2.2.2.2.2.2)).bind fun r_2=>(sliceM x.2.2.2.1 0 (min (lenM x.2.2.2.1) 9)).bind fun r_3=>(sliceM
 x.2.2.2.2.2.2.2 0 (min (lenM x.2.2.2.2.2.2.2) 62)).bind fun r_4=>(sliceM x.2.2.1.1.2 0 (min (lenM x.2.2.1.1.2) 30)).bind fun r_5=>(sliceM x.2.2.1.2 0 (min
 (lenM x.2.2.1.2) 16)).bind fun r_6=>(m13 (x.2.2.2.2.1,8)).bind fun r_7=>(m13 (x.2.2.2.2.2.1,8)).bind fun r_8=>(m13 (x.2.2.2.2.2.2.1,61)).bind fun r_9
 => (bif r then m14 (((r_1.1.1,r_1.1.2),r_1.2),r_2,r_7,r_8,wrap IntKind.i64 (r_9-30),r_4) else some false).bind fun r_10=>(bif PE.andM r r_10 then
 m14 (((r_1.1.1,r_1.1.2),r_1.2),r_3,x.2.2.2.2.1,x.2.2.2.2.2.1,x.2.2.2.2.2.2.1,r_4) else some false).bind fun r_11=>(bif PE.andM (PE.andM r r_10) r_11
 then m15 (((r_1.1.1,r_1.1.2),r_1.2),x.2.1.1,x.2.1.2.1,x.2.1.2.2) else some ((0,[]),[])).bind fun r_12=>(bif PE.andM (PE.andM r r_10) r_11 then m14
 (((r_12.1.1,r_12.1.2),r_12.2),r_2,r_7,r_8,wrap IntKind.i64 (r_9-30),r_4) else some false).bind fun r_13=>(bif PE.andM (PE.andM (PE.andM r r_10)
 r_11) r_13 then m14 (((x.2.2.1.1.1,r_5),r_6),r_3,r_7,r_8,x.2.2.2.2.2.2.1,r_4) else some false).bind fun r_14=>some (PE.andM (PE.andM (PE.andM
 (PE.andM r r_10) r_11) r_13) r_14)
theorem c3:SpecOK Tryz.prog 3 ⟨as3,rs3,m3⟩ :=
 fc tabs15OK [] an3 Tryz.f3 fun x=>by kernel_rfl
def tabs3:Tabs:=Tabs.add tabs15 3 ⟨as3,rs3,m3⟩
theorem tabs3OK:TabOK Tryz.prog tabs3:=TabOK.add tabs15OK c3 Tryz.call3
end
end Go.Proofs.YthfgccfaildmfaaGreatDoor


namespace Go.Proofs.YthfgccfaildmfaaGreatDoor
open Go Go.Abs Go.PE
def bnd (n:Int) (c:Int×Int×Int):Bool:=decide (0≤c.1∧c.1<n∧0≤c.2.1∧c.2.1<n∧-1000000000≤c.2.2∧c.2.2≤1000000000)
def sys (x:Int×List (Int×Int×Int)):Bool:=decide (0≤x.1∧x.1≤16∧x.2.length≤60)&&x.2.all (bnd x.1)
theorem m102_eq {n:Int} (c:Int×Int×Int) (h0:0≤n) (h1:n≤16):m102 (n,c.1,c.2.1,c.2.2)=some (bnd n c):=by
 unfold m102 m98 bnd
 have e:∀ a:Int,decide (a≤n-1)=decide (a<n):=fun a=>by
  by_cases h:a<n
  ·rw [decide_eq_true h,decide_eq_true (by omega)]
  ·rw [decide_eq_false h,decide_eq_false (by omega)]
 simp only [Option.bind_some,wrap_in (n:=n-1) (by omega) (by omega),Bool.decide_and,leM,e]
 generalize decide ((0:Int)≤c.1)=p1
 generalize decide (c.1<n)=p2
 generalize decide ((0:Int)≤c.2.1)=p3
 generalize decide (c.2.1<n)=p4
 generalize decide ((-1000000000:Int)≤c.2.2)=p5
 generalize decide (c.2.2≤(1000000000:Int))=p6
 cases p1<;>cases p2<;>cases p3<;>cases p4<;>cases p5<;>cases p6<;>rfl
theorem m64_eq (x:Int×List (Int×Int×Int)):m64 x=some (sys x):=by
 unfold m64 m98
 simp only [Option.bind_some]
 by_cases h:0≤x.1∧x.1≤16∧x.2.length≤60
 ·obtain ⟨h0,h1,h2⟩:=h
  have e1:PE.andM (leM (0:Int) x.1) (leM x.1 (16:Int))=true:=by simp [PE.andM,h0,h1]
  have e2:leM (lenM x.2) (60:Int)=true:=decide_eq_true (by show (x.2.length:Int)≤60;omega)
  rw [e1,e2]
  simp only [PE.andM,Bool.and_self,cond_true,Bool.true_and]
  rw [any_loop (xs:=x.2) (fun c=>!bnd x.1 c)]
  ·simp [PE.notM,sys,h0,h1,h2,List.all_eq_not_any_not]
  ·intro k hk
   have:ltM (k:Int) (lenM x.2)=true:=decide_eq_true (by show (k:Int)<(x.2.length:Int);omega)
   rw [this,cond_true,idxM_lt hk,Option.bind_some,m102_eq _ h0 h1,Option.bind_some,wrap_in (by omega) (by omega)]
   unfold PE.notM
   cases bnd x.1 x.2[k]<;>rfl
  ·have:ltM (x.2.length:Int) (lenM x.2)=false:=by simp
   rw [this];rfl
 ·have e1:PE.andM (PE.andM (leM (0:Int) x.1) (leM x.1 (16:Int))) (leM (lenM x.2) (60:Int))=false:=by
   simp only [PE.andM,Bool.and_eq_false_iff]
   by_cases a:0≤x.1<;>by_cases b:x.1≤16<;>simp [a,b,leM,lenM] at h ⊢;omega
  rw [e1]
  simp [PE.andM,sys,h]
theorem m88_eq {a b:Int}:m88 (a,b)=some (if a=1152921504606846976∨b=1152921504606846976 then 1152921504606846976 else IntKind.wrap IntKind.i64 (a+b)):=by
 unfold m88
 by_cases h:a=1152921504606846976<;>by_cases h':b=1152921504606846976<;>simp [h,h',PE.orM,eqM]
end Go.Proofs.YthfgccfaildmfaaGreatDoor
namespace Go.Proofs.YthfgccfaildmfaaGreatDoor
open Go Go.Abs Go.PE
def d0 (i j:Nat):Int:=if i=j then 0 else 1152921504606846976
theorem m144_eq (i j:Nat):m144 ((i:Int),(j:Int))=some (d0 i j):=by
 unfold m144 d0
 by_cases h:i=j
 ·subst h;simp [eqM]
 ·have:¬ ((i:Int)=(j:Int)):=by omega
  simp [eqM,h,this]
theorem lt_true {a b:Int} (h:a<b):ltM a b=true:=decide_eq_true h
theorem lt_false {a b:Int} (h:¬ a<b):ltM a b=false:=decide_eq_false h
theorem none_rows {n:Nat} (hn:n≤16) {i:Nat} (hi:i<n) :
  loopM (fun (s_1:Int×List (List Int)) =>
   bif ltM s_1.1 (n:Int) then
    Option.bind (chkM (i:Int) (lenM s_1.2)) fun (r_1:Unit) =>
     Option.bind (chkM (i:Int) (lenM s_1.2)) fun (r_2:Unit) =>
      Option.bind (m144 ((i:Int),s_1.1)) fun (r_3:Int) =>
       Option.bind (app2M (nat_lit 8) s_1.2 (i:Int) [r_3]) fun (r_4:List (List Int)) =>
        Option.bind (chkM (i:Int) (lenM r_4)) fun (r_5:Unit) =>
         Option.bind
          (Option.bind (sameM (i:Int) (i:Int)) fun (x:Unit) =>
           Option.bind (sameM (i:Int) (i:Int)) fun (x:Unit)=>chkM (i:Int) (lenM r_4))
          fun (r:Unit)=>some (Sum.inl (IntKind.wrap IntKind.i64 (s_1.1+(1:Int)),r_4))
   else some (Sum.inr s_1.2)) ((0:Int),rt n (fun a=>if a<i then n else 0) d0)=some (rt n (fun a=>if a<i+1 then n else 0) d0):=by
 have e0:rt n (fun a=>if a<i then n else 0) d0=rt n (fun a=>if a<i then n else if a=i then 0 else 0) d0:=rt_congr (fun a _=>by simp) fun _ _ _ _=>rfl
 rw [e0]
 refine count_loop (fun j=>rt n (fun a=>if a<i then n else if a=i then j else 0) d0) n (fun j hj=>?_) ?_
 ·have hl:∀ (len:Nat→Nat),chkM (i:Int) (lenM (rt n len d0))=some ():=fun len=>chkM_of (by omega) (by show (i:Int)<((rt n len d0).length:Int);rw [rt_length];omega)
  simp only [lt_true (a:=(j:Int)) (b:=(n:Int)) (by omega),cond_true,hl,Option.bind_some,m144_eq,sameM_self]
  have hj':(if i<i then n else if i=i then j else 0)=j:=by simp
  have hap:=rt_app (n:=n) (len:=fun a=>if a<i then n else if a=i then j else 0) (d:=d0) (i:=i) (b:=8) hi (by simp;omega)
  rw [hj'] at hap
  rw [hap,Option.bind_some,hl,Option.bind_some,Option.bind_some,wrap_in (by omega) (by omega)]
  congr 3
  refine rt_congr (fun a _=>?_) fun _ _ _ _=>rfl
  unfold upl
  by_cases e:a=i<;>simp [e]
 ·simp only [lt_false (a:=(n:Int)) (b:=(n:Int)) (by omega),cond_false]
  congr 2
  refine rt_congr (fun a _=>?_) fun _ _ _ _=>rfl
  by_cases e:a<i
  ·rw [if_pos e,if_pos (by omega)]
  ·by_cases e':a=i
   ·rw [if_neg e,if_pos e',if_pos (by omega)]
   ·rw [if_neg e,if_neg e',if_neg (by omega)]
theorem none_loop {n:Nat} (hn:n≤16):loopM
    (fun (s:Int×List (List Int)) =>
     bif ltM s.1 (n:Int) then
      Option.bind
       (loopM
        (fun (s_1:Int×List (List Int)) =>
         bif ltM s_1.1 (n:Int) then
          Option.bind (chkM s.1 (lenM s_1.2)) fun (r_1:Unit) =>
           Option.bind (chkM s.1 (lenM s_1.2)) fun (r_2:Unit) =>
            Option.bind (m144 (s.1,s_1.1)) fun (r_3:Int) =>
             Option.bind (app2M (nat_lit 8) s_1.2 s.1 [r_3]) fun (r_4:List (List Int)) =>
              Option.bind (chkM s.1 (lenM r_4)) fun (r_5:Unit) =>
               Option.bind
                (Option.bind (sameM s.1 s.1) fun (x:Unit) =>
                 Option.bind (sameM s.1 s.1) fun (x:Unit)=>chkM s.1 (lenM r_4))
                fun (r:Unit)=>some (Sum.inl (IntKind.wrap IntKind.i64 (s_1.1+(1:Int)),r_4))
         else some (Sum.inr s_1.2))
        ((0:Int),s.2))
       fun (o:List (List Int))=>some (Sum.inl (IntKind.wrap IntKind.i64 (s.1+(1:Int)),o))
     else some (Sum.inr s.2))
    ((0:Int),List.replicate ((n:Int)).toNat ([]:List Int))=some (rt n (fun _=>n) d0):=by
 have e0:List.replicate ((n:Int)).toNat ([]:List Int)=rt n (fun a=>if a<0 then n else 0) d0:=by
  have ht:((n:Int)).toNat=n:=by omega
  rw [ht,replicate_row]
  exact row_congr fun i _=>rfl
 rw [e0]
 refine count_loop (fun i=>rt n (fun a=>if a<i then n else 0) d0) n (r:=rt n (fun _=>n) d0) (fun i hi=>?_) ?_
 ·simp only [lt_true (a:=(i:Int)) (b:=(n:Int)) (by omega),cond_true]
  rw [none_rows hn hi,Option.bind_some,wrap_in (by omega) (by omega)]
 ·simp only [lt_false (a:=(n:Int)) (b:=(n:Int)) (by omega),cond_false]
  congr 2
  exact rt_congr (fun a ha=>if_pos ha) fun _ _ _ _=>rfl
theorem none_make {n:Nat} (hn:n≤16):mkM (n:Int) (n:Int) (nat_lit 24) ([]:List Int)=some (List.replicate ((n:Int)).toNat []) :=
 mkM_of (by omega) (by omega) (by show (n:Int)*24≤140737488355328;omega)
theorem none_table {n:Nat} (hn:n≤16):m104 (n:Int)=some (rt n (fun _=>n) d0):=by
 unfold m104
 exact bind_of (none_make hn) (bind_of (none_loop hn) rfl)
end Go.Proofs.YthfgccfaildmfaaGreatDoor
namespace Go.Proofs.YthfgccfaildmfaaGreatDoor
open Go Go.Abs Go.PE
abbrev Tab:=Nat→Nat→Int
def addB (d:Tab) (c:Int×Int×Int):Tab:=upd d c.1.toNat c.2.1.toNat (min (d c.1.toNat c.2.1.toNat) c.2.2)
def pl (a b:Int):Int:=if a=1152921504606846976∨b=1152921504606846976 then 1152921504606846976 else IntKind.wrap IntKind.i64 (a+b)
def cell (k:Nat) (rk:Nat→Int) (i j:Nat) (d:Tab):Tab:=upd d i j (min (d i j) (pl (d i k) (rk j)))
def cells (k:Nat) (rk:Nat→Int) (i:Nat) (d:Tab):Nat→Tab
 | 0=>d
 | j+1=>cell k rk i j (cells k rk i d j)
def rows (n k:Nat) (rk:Nat→Int) (d:Tab):Nat→Tab
 | 0=>d
 | i+1=>cells k rk i (rows n k rk d i) n
def rounds (n:Nat) (d:Tab):Nat→Tab
 | 0=>d
 | k+1=>rows n k (rounds n d k k) (rounds n d k) n
def fw (n:Nat) (bs:List (Int×Int×Int)):Tab:=rounds n (bs.foldl addB d0) n
theorem chk_rt {n:Nat} {len:Nat→Nat} {d:Tab} {i:Nat} (hi:i<n):chkM (i:Int) (lenM (rt n len d))=some () :=
 chkM_of (by omega) (by show (i:Int)<((rt n len d).length:Int);rw [rt_length];omega)
theorem chk_row {m:Nat} {g:Nat→Int} {i:Nat} (hi:i<m):chkM (i:Int) (lenM (row m g))=some () :=
 chkM_of (by omega) (by show (i:Int)<((row m g).length:Int);rw [row_length];omega)
theorem bnd_of {n:Nat} {c:Int×Int×Int} (h:bnd (n:Int) c=true):∃ a b:Nat,a<n∧b<n∧c.1=a∧c.2.1=b∧-1000000000≤c.2.2∧c.2.2≤1000000000:=by
 have h:=of_decide_eq_true h
 exact ⟨c.1.toNat,c.2.1.toNat,by omega,by omega,by omega,by omega,by omega,by omega⟩
theorem foldl_take {α β:Type} (f:β→α→β) (z:β) (xs:List α) (k:Nat) (h:k<xs.length):(xs.take (k+1)).foldl f z=f ((xs.take k).foldl f z) xs[k]:=by
 rw [List.take_succ_eq_append_getElem h,List.foldl_append]
 rfl
theorem bounds_loop {n:Nat} (hn:n≤16) {bs:List (Int×Int×Int)} (hl:bs.length≤60) (hb:bs.all (bnd (n:Int))=true) :
  loopM
      (fun (s:Int×List (List Int)) =>
       bif ltM s.1 (lenM bs) then
        Option.bind (idxM bs s.1) fun (r_1:Int×Int×Int) =>
         Option.bind (chkM r_1.1 (lenM s.2)) fun (r_2:Unit) =>
          Option.bind (chkM r_1.1 (lenM s.2)) fun (r_3:Unit) =>
           Option.bind (chkM r_1.1 (lenM s.2)) fun (r_4:Unit) =>
            Option.bind (chkM r_1.1 (lenM s.2)) fun (r_5:Unit) =>
             Option.bind (Option.bind (idxM s.2 r_1.1) fun (xs:List Int)=>chkM r_1.2.1 (lenM xs))
              fun (r_6:Unit) =>
              Option.bind
               (Option.bind (idxM s.2 r_1.1) fun (xs:List Int) =>
                Option.bind (idxM xs r_1.2.1) fun (x:Int)=>some x)
               fun (r_7:Int) =>
               Option.bind (Option.bind (idxM s.2 r_1.1) fun (xs:List Int)=>chkM r_1.2.1 (lenM xs))
                fun (r_8:Unit) =>
                Option.bind (set2M s.2 r_1.1 r_1.2.1 fun (x:Int)=>some (min r_7 r_1.2.2))
                 fun (r:List (List Int)) =>
                 some (Sum.inl (IntKind.wrap IntKind.i64 (s.1+(1:Int)),r))
       else some (Sum.inr s.2))
      ((0:Int),rt n (fun _=>n) d0)=some (rt n (fun _=>n) (bs.foldl addB d0)):=by
 refine count_loop (fun k=>rt n (fun _=>n) ((bs.take k).foldl addB d0)) bs.length (fun k hk=>?_) ?_
 ·obtain ⟨a,b,ha,hb',e1,e2,_,_⟩:=bnd_of (List.all_eq_true.1 hb _ (List.getElem_mem hk))
  simp only [lt_true (a:=(k:Int)) (b:=lenM bs) (by show (k:Int)<(bs.length:Int);omega),cond_true,idxM_lt hk,Option.bind_some,e1,e2,chk_rt ha,rt_idx ha,chk_row hb',row_idx hb']
  rw [rt_set (y:=min ((bs.take k).foldl addB d0 a b) bs[k].2.2) ha hb' rfl,Option.bind_some,wrap_in (by omega) (by omega),foldl_take addB d0 bs k hk]
  have e:addB ((bs.take k).foldl addB d0) bs[k]=upd ((bs.take k).foldl addB d0) a b (min ((bs.take k).foldl addB d0 a b) bs[k].2.2):=by
   unfold addB
   rw [e1,e2]
   rfl
  rw [e]
 ·simp only [lt_false (a:=(bs.length:Int)) (b:=lenM bs) (by show ¬ (bs.length:Int)<(bs.length:Int);omega),cond_false,List.take_length]
end Go.Proofs.YthfgccfaildmfaaGreatDoor
namespace Go.Proofs.YthfgccfaildmfaaGreatDoor
open Go Go.Abs Go.PE
theorem m88_pl (a b:Int):m88 (a,b)=some (pl a b):=m88_eq
theorem copy_row {n:Nat} {g:Nat→Int}:copyM (List.replicate ((n:Int)).toNat (0:Int)) (row n g)=row n g:=by
 unfold copyM
 have ht:((n:Int)).toNat=n:=by omega
 rw [ht,List.take_of_length_le (by simp [row_length]),List.drop_eq_nil_of_le (by simp [row_length]),List.append_nil]
theorem cells_loop {n:Nat} (hn:n≤16) {k i:Nat} (hk:k<n) (hi:i<n) (rk:Nat→Int) (d:Tab) :
  loopM
                   (fun (s_2:Int×List (List Int)) =>
                    bif ltM s_2.1 (n:Int) then
                     Option.bind (chkM (i:Int) (lenM s_2.2)) fun (r_5:Unit) =>
                      Option.bind (chkM (i:Int) (lenM s_2.2)) fun (r_6:Unit) =>
                       Option.bind (chkM (i:Int) (lenM s_2.2)) fun (r_7:Unit) =>
                        Option.bind (chkM (i:Int) (lenM s_2.2)) fun (r_8:Unit) =>
                         Option.bind
                          (Option.bind (idxM s_2.2 (i:Int)) fun (xs:List Int) =>
                           chkM s_2.1 (lenM xs))
                          fun (r_9:Unit) =>
                          Option.bind
                           (Option.bind (idxM s_2.2 (i:Int)) fun (xs:List Int) =>
                            Option.bind (idxM xs s_2.1) fun (x:Int)=>some x)
                           fun (r_10:Int) =>
                           Option.bind (chkM (i:Int) (lenM s_2.2)) fun (r_11:Unit) =>
                            Option.bind (chkM (i:Int) (lenM s_2.2)) fun (r_12:Unit) =>
                             Option.bind
                              (Option.bind (idxM s_2.2 (i:Int)) fun (xs:List Int) =>
                               chkM (k:Int) (lenM xs))
                              fun (r_13:Unit) =>
                              Option.bind
                               (Option.bind (idxM s_2.2 (i:Int)) fun (xs:List Int) =>
                                Option.bind (idxM xs (k:Int)) fun (x:Int)=>some x)
                               fun (r_14:Int) =>
                               Option.bind (chkM s_2.1 (lenM (copyM (List.replicate ((n:Int)).toNat (0:Int)) (row n rk))))
                                fun (r_15:Unit) =>
                                Option.bind (idxM (copyM (List.replicate ((n:Int)).toNat (0:Int)) (row n rk)) s_2.1)
                                 fun (r_16:Int) =>
                                 Option.bind (m88 (r_14,r_16)) fun (r_17:Int) =>
                                  Option.bind
                                   (Option.bind (idxM s_2.2 (i:Int))
                                    fun (xs:List Int)=>chkM s_2.1 (lenM xs))
                                   fun (r_18:Unit) =>
                                   Option.bind
                                    (set2M s_2.2 (i:Int) s_2.1 fun (x:Int) =>
                                     some (min r_10 r_17))
                                    fun (r:List (List Int)) =>
                                    some
                                     (Sum.inl
                                      (IntKind.wrap IntKind.i64 (s_2.1+(1:Int)),
                                       r))
                    else some (Sum.inr s_2.2))
                   ((0:Int),rt n (fun _=>n) d)=some (rt n (fun _=>n) (cells k rk i d n)):=by
 refine count_loop (fun j=>rt n (fun _=>n) (cells k rk i d j)) n (fun j hj=>?_) ?_
 ·simp only [lt_true (a:=(j:Int)) (b:=(n:Int)) (by omega),cond_true,Option.bind_some,copy_row,chk_rt hi,rt_idx hi,chk_row hj,row_idx hj,chk_row hk,row_idx hk,m88_pl]
  rw [rt_set (y:=min (cells k rk i d j i j) (pl (cells k rk i d j i k) (rk j))) hi hj rfl,Option.bind_some,wrap_in (by omega) (by omega)]
  rfl
 ·simp only [lt_false (a:=(n:Int)) (b:=(n:Int)) (by omega),cond_false]
def ovl (d:Tab):Nat→Bool
 | 0=>false
 | i+1=>ovl d i||decide (d i i<0)
theorem ovl_iff (d:Tab):∀ n,ovl d n=true↔∃ i,i<n∧d i i<0
 | 0=>by simp [ovl]
 | n+1=>by
  simp only [ovl,Bool.or_eq_true,decide_eq_true_eq,ovl_iff d n]
  constructor
  ·rintro (⟨i,h1,h2⟩ | h)
   ·exact ⟨i,by omega,h2⟩
   ·exact ⟨n,by omega,h⟩
  ·rintro ⟨i,h1,h2⟩
   by_cases e:i=n
   ·subst e;exact .inr h2
   ·exact .inl ⟨i,by omega,h2⟩
end Go.Proofs.YthfgccfaildmfaaGreatDoor
namespace Go.Proofs.YthfgccfaildmfaaGreatDoor
open Go Go.Abs Go.PE
theorem diag_loop {n:Nat} (hn:n≤16) (d:Tab) :
  loopM
        (fun (s:Int) =>
         bif ltM s (n:Int) then
          Option.bind (chkM s (lenM (rt n (fun _=>n) d))) fun (r_1:Unit) =>
           Option.bind (chkM s (lenM (rt n (fun _=>n) d))) fun (r_2:Unit) =>
            Option.bind (Option.bind (idxM (rt n (fun _=>n) d) s) fun (xs:List Int)=>chkM s (lenM xs))
             fun (r_3:Unit) =>
             Option.bind
              (Option.bind (idxM (rt n (fun _=>n) d) s) fun (xs:List Int) =>
               Option.bind (idxM xs s) fun (x:Int)=>some x)
              fun (r:Int) =>
              bif ltM r (0:Int) then some (Sum.inr (Sum.inr false))
              else some (Sum.inl (IntKind.wrap IntKind.i64 (s+(1:Int))))
         else some (Sum.inr (Sum.inl ())))
        (0:Int)=some (bif ovl d n then Sum.inr false else Sum.inl ()):=by
 refine loopM_is (fun k (s:Int)=>s=(k:Int)∧ovl d k=false) n ⟨rfl,rfl⟩ fun k s hk ⟨hs,hP⟩=>?_
 subst hs
 by_cases hlt:k<n
 ·simp only [lt_true (a:=(k:Int)) (b:=(n:Int)) (by omega),cond_true,Option.bind_some,chk_rt hlt,rt_idx hlt,chk_row hlt,row_idx hlt]
  by_cases hd:d k k<0
  ·refine .inr ?_
   rw [lt_true hd,cond_true,(ovl_iff d n).2 ⟨k,hlt,hd⟩]
   rfl
  ·refine .inl ⟨((k+1:Nat):Int),hlt,by rw [lt_false hd,cond_false,wrap_in (by omega) (by omega)];rfl,rfl,?_⟩
   simp [ovl,hP,hd]
 ·have e:k=n:=by omega
  subst e
  refine .inr ?_
  rw [lt_false (by omega),cond_false,hP]
  rfl
theorem m65_eq {n:Nat} (hn:n≤16) {bs:List (Int×Int×Int)} (hl:bs.length≤60) (hb:bs.all (bnd (n:Int))=true) :
  m65 ((n:Int),bs)=some (bif ovl (fw n bs) n then ([],false) else (rt n (fun _=>n) (fw n bs),true)):=by
 unfold m65
 dsimp only
 refine bind_of (none_make hn) (bind_of (none_loop hn) (bind_of (bounds_loop hn hl hb) ?_))
 refine bind_of (x:=rt n (fun _=>n) (fw n bs)) (count_loop (fun k=>rt n (fun _=>n) (rounds n (bs.foldl addB d0) k)) n (fun k hk=>?_) ?_) ?_
 ·simp only [lt_true (a:=(k:Int)) (b:=(n:Int)) (by omega),cond_true]
  refine bind_of (mkM_of (by omega) (by omega) (by show (n:Int)*8≤140737488355328;omega)) ?_
  simp only [chk_rt hk,Option.bind_some,rt_idx hk]
  refine bind_of (count_loop (fun i=>rt n (fun _=>n) (rows n k (rounds n (bs.foldl addB d0) k k) (rounds n (bs.foldl addB d0) k) i)) n (r:=rt n (fun _=>n) (rounds n (bs.foldl addB d0) (k+1))) (fun i hi=>?_) ?_) ?_
  ·simp only [lt_true (a:=(i:Int)) (b:=(n:Int)) (by omega),cond_true]
   refine bind_of (cells_loop hn hk hi _ _) ?_
   rw [wrap_in (by omega) (by omega)]
   rfl
  ·simp only [lt_false (a:=(n:Int)) (b:=(n:Int)) (by omega),cond_false]
   rfl
  ·rw [wrap_in (by omega) (by omega)]
 ·simp only [lt_false (a:=(n:Int)) (b:=(n:Int)) (by omega),cond_false]
  rfl
 ·refine bind_of (diag_loop hn _) ?_
  cases ovl (fw n bs) n<;>rfl
theorem m25_eq (x:Int×List (Int×Int×Int)):m25 x=some (bif sys x&&!ovl (fw x.1.toNat x.2) x.1.toNat then (rt x.1.toNat (fun _=>x.1.toNat) (fw x.1.toNat x.2),0) else ([],90)):=by
 unfold m25
 rw [show (x.1,x.2)=x from rfl,m64_eq,Option.bind_some]
 cases h:sys x with
 | false=>rfl
 | true =>
  have h':=h
  unfold sys at h'
  rw [Bool.and_eq_true] at h'
  obtain ⟨h1,h2⟩:=h'
  have h1:=of_decide_eq_true h1
  have e:x=(((x.1.toNat:Nat):Int),x.2):=by
   have:x.1=((x.1.toNat:Nat):Int):=by omega
   rw [← this]
  have e2:=m65_eq (n:=x.1.toNat) (bs:=x.2) (by omega) (by omega) (by
   have:((x.1.toNat:Nat):Int)=x.1:=by omega
   rw [this];exact h2)
  rw [← e] at e2
  simp only [PE.notM,Bool.not_true,cond_false]
  rw [e2,Option.bind_some]
  cases ovl (fw x.1.toNat x.2) x.1.toNat<;>rfl
end Go.Proofs.YthfgccfaildmfaaGreatDoor
namespace Go.Proofs.YthfgccfaildmfaaGreatDoor
open Go Go.Abs Go.PE
inductive Wk (bs:List (Int×Int×Int)):Nat→Nat→Int→Prop
 | nil (i:Nat):Wk bs i i 0
 | snoc {i a b:Nat} {w m:Int}:Wk bs i a w→((a:Int),(b:Int),m)∈bs→Wk bs i b (w+m)
theorem Wk.trans {bs:List (Int×Int×Int)} {i j k:Nat} {v w:Int} (h:Wk bs i j v) (h2:Wk bs j k w):Wk bs i k (v+w):=by
 induction h2 with
 | nil=>simpa using h
 | snoc _ hm ih=>rw [← Int.add_assoc];exact ih.snoc hm
def Ent (bs:List (Int×Int×Int)) (B:Int) (i j:Nat) (x:Int):Prop:=x=1152921504606846976∨(-B≤x∧x≤B∧Wk bs i j x)
theorem Ent.mono {bs:List (Int×Int×Int)} {B B':Int} {i j:Nat} {x:Int} (hB:B≤B') (h:Ent bs B i j x):Ent bs B' i j x:=by
 rcases h with h | ⟨h1,h2,h3⟩
 ·exact .inl h
 ·exact .inr ⟨by omega,by omega,h3⟩
theorem Ent.pl {bs:List (Int×Int×Int)} {A B:Int} {i k j:Nat} {x y:Int} (hA:A+B≤1000000000000000000) (h:Ent bs A i k x) (h2:Ent bs B k j y):Ent bs (A+B) i j (pl x y):=by
 unfold Go.Proofs.YthfgccfaildmfaaGreatDoor.pl
 by_cases e:x=1152921504606846976∨y=1152921504606846976
 ·rw [if_pos e];exact .inl rfl
 ·rw [if_neg e]
  rcases h with h | ⟨h1,h3,h4⟩
  ·exact absurd (.inl h) e
  ·rcases h2 with h2 | ⟨h5,h6,h7⟩
   ·exact absurd (.inr h2) e
   ·rw [wrap_in (by omega) (by omega)]
    exact .inr ⟨by omega,by omega,h4.trans h7⟩
theorem Ent.min {bs:List (Int×Int×Int)} {B:Int} {i j:Nat} {x y:Int} (h:Ent bs B i j x) (h2:Ent bs B i j y):Ent bs B i j (min x y):=by
 by_cases e:x≤y
 ·rw [Int.min_eq_left e];exact h
 ·rw [Int.min_eq_right (by omega)];exact h2
theorem cells_ent {bs:List (Int×Int×Int)} {B:Int} {n k i:Nat} {rk:Nat→Int} {d:Tab} (hB0:0≤B) (hB:3*B≤1000000000000000000) (hr:∀ j,j<n→Ent bs B k j (rk j)) (hk:k<n) (hd:∀ j,j<n→Ent bs B i j (d i j)) :
  ∀ m,m≤n→(∀ j,j<n→Ent bs (3*B) i j (cells k rk i d m i j))∧Ent bs (2*B) i k (cells k rk i d m i k)∧(m≤k→Ent bs B i k (cells k rk i d m i k))
 | 0,_=>⟨fun j hj=>(hd j hj).mono (by omega),(hd k hk).mono (by omega),fun _=>hd k hk⟩
 | m+1,hm=>by
  obtain ⟨h1,h2,h3⟩:=cells_ent hB0 hB hr hk hd m (by omega)
  have hv:Ent bs (3*B) i m (min (cells k rk i d m i m) (pl (cells k rk i d m i k) (rk m))) :=
   (h1 m (by omega)).min ((Ent.pl (A:=2*B) (by omega) h2 (hr m (by omega))).mono (by omega))
  refine ⟨fun j hj=>?_,?_,fun hmk=>?_⟩
  ·show Ent bs (3*B) i j (upd _ i m _ i j)
   unfold upd
   by_cases e:j=m
   ·subst e;rw [if_pos ⟨rfl,rfl⟩];exact hv
   ·rw [if_neg fun h=>e h.2];exact h1 j hj
  ·show Ent bs (2*B) i k (upd _ i m _ i k)
   unfold upd
   by_cases e:k=m
   ·subst e
    rw [if_pos ⟨rfl,rfl⟩]
    exact ((h3 (by omega)).mono (by omega)).min ((Ent.pl (A:=B) (by omega) (h3 (by omega)) (hr k hk)).mono (by omega))
   ·rw [if_neg fun h=>e h.2];exact h2
  ·show Ent bs B i k (upd _ i m _ i k)
   unfold upd
   rw [if_neg fun h=>by omega]
   exact h3 (by omega)
theorem cells_other {k:Nat} {rk:Nat→Int} {i:Nat} {d:Tab} {a b:Nat} (ha:a≠i):∀ m,cells k rk i d m a b=d a b
 | 0=>rfl
 | m+1=>by
  show upd _ i m _ a b=_
  unfold upd
  rw [if_neg fun h=>ha h.1]
  exact cells_other ha m
end Go.Proofs.YthfgccfaildmfaaGreatDoor
namespace Go.Proofs.YthfgccfaildmfaaGreatDoor
open Go Go.Abs Go.PE
def EntT (bs:List (Int×Int×Int)) (B:Int) (n:Nat) (d:Tab):Prop:=∀ i j,i<n→j<n→Ent bs B i j (d i j)
theorem rows_ent {bs:List (Int×Int×Int)} {B:Int} {n k:Nat} {rk:Nat→Int} {d:Tab} (hB0:0≤B) (hB:3*B≤1000000000000000000) (hr:∀ j,j<n→Ent bs B k j (rk j)) (hk:k<n) (hd:EntT bs B n d) :
  ∀ m,m≤n→EntT bs (3*B) n (rows n k rk d m)∧∀ i j,m≤i→rows n k rk d m i j=d i j
 | 0,_=>⟨fun i j hi hj=>(hd i j hi hj).mono (by omega),fun _ _ _=>rfl⟩
 | m+1,hm=>by
  obtain ⟨h1,h2⟩:=rows_ent hB0 hB hr hk hd m (by omega)
  refine ⟨fun i j hi hj=>?_,fun i j hi=>?_⟩
  ·show Ent bs (3*B) i j (cells k rk m (rows n k rk d m) n i j)
   by_cases e:i=m
   ·subst e
    exact (cells_ent hB0 hB hr hk (fun j hj=>by rw [h2 i j (Nat.le_refl _)];exact hd i j hi hj) n (Nat.le_refl _)).1 j hj
   ·rw [cells_other e];exact h1 i j hi hj
  ·show cells k rk m (rows n k rk d m) n i j=_
   rw [cells_other (by omega),h2 i j (by omega)]
theorem d0_ent {bs:List (Int×Int×Int)} {n:Nat}:EntT bs 1000000000 n d0:=by
 intro i j _ _
 unfold d0
 by_cases e:i=j
 ·subst e;rw [if_pos rfl];exact .inr ⟨by omega,by omega,.nil i⟩
 ·rw [if_neg e];exact .inl rfl
theorem bounds_ent {n:Nat} {bs:List (Int×Int×Int)}:∀ (cs:List (Int×Int×Int)) (d:Tab),(∀ c∈cs,c∈bs∧bnd (n:Int) c=true)→EntT bs 1000000000 n d→EntT bs 1000000000 n (cs.foldl addB d)
 | [],d,_,h=>h
 | c::cs,d,hc,h=>by
  refine bounds_ent cs (addB d c) (fun c' h'=>hc c' (List.mem_cons_of_mem _ h')) ?_
  obtain ⟨hm,hb⟩:=hc c (List.mem_cons_self ..)
  obtain ⟨a,b,ha,hb',e1,e2,e3,e4⟩:=bnd_of hb
  intro i j hi hj
  unfold addB upd
  have ha':c.1.toNat=a:=by omega
  have hb'':c.2.1.toNat=b:=by omega
  rw [ha',hb'']
  by_cases e:i=a∧j=b
  ·rw [if_pos e]
   obtain ⟨rfl,rfl⟩:=e
   refine (h i j hi hj).min (.inr ⟨e3,e4,?_⟩)
   have hw:Wk bs i j (0+c.2.2):=(Wk.nil i).snoc (by rw [← e1,← e2];exact hm)
   simpa using hw
  ·rw [if_neg e];exact h i j hi hj
def size:Nat→Int
 | 0=>1000000000
 | k+1=>3*size k
theorem size_pos:∀ k,0≤size k
 | 0=>by decide
 | k+1=>by have:=size_pos k;show 0≤3*size k;omega
theorem size_le {k:Nat} (h:k≤16):size k≤100000000000000000:=by
 have:∀ k:Fin 17,size k.1≤100000000000000000:=by decide
 exact this ⟨k,by omega⟩
theorem rounds_ent {n:Nat} (hn:n≤16) {bs:List (Int×Int×Int)} {d:Tab} (hd:EntT bs 1000000000 n d):∀ k,k≤n→EntT bs (size k) n (rounds n d k)
 | 0,_=>hd
 | k+1,hk=>by
  have h:=rounds_ent hn hd k (by omega)
  have hs:=size_le (k:=k) (by omega)
  exact (rows_ent (size_pos k) (by omega) (fun j hj=>h k j (by omega) hj) (by omega) h n (Nat.le_refl _)).1
theorem fw_ent {n:Nat} (hn:n≤16) {bs:List (Int×Int×Int)} (hb:bs.all (bnd (n:Int))=true):EntT bs 100000000000000000 n (fw n bs):=by
 intro i j hi hj
 have h0:=bounds_ent (n:=n) (bs:=bs) bs d0 (fun c hc=>⟨hc,List.all_eq_true.1 hb c hc⟩) d0_ent
 exact (rounds_ent hn h0 n (Nat.le_refl _) i j hi hj).mono (size_le hn)
end Go.Proofs.YthfgccfaildmfaaGreatDoor
namespace Go.Proofs.YthfgccfaildmfaaGreatDoor
open Go Go.Abs Go.PE
theorem cell_le (k:Nat) (rk:Nat→Int) (i j:Nat) (d:Tab) (a b:Nat):cell k rk i j d a b≤d a b:=by
 unfold cell upd
 by_cases e:a=i∧b=j
 ·rw [if_pos e];obtain ⟨rfl,rfl⟩:=e;exact Int.min_le_left _ _
 ·rw [if_neg e];exact Int.le_refl _
theorem cells_le (k:Nat) (rk:Nat→Int) (i:Nat) (d:Tab) (a b:Nat):∀ m,cells k rk i d m a b≤d a b
 | 0=>Int.le_refl _
 | m+1=>Int.le_trans (cell_le ..) (cells_le k rk i d a b m)
theorem rows_le (n k:Nat) (rk:Nat→Int) (d:Tab) (a b:Nat):∀ m,rows n k rk d m a b≤d a b
 | 0=>Int.le_refl _
 | m+1=>Int.le_trans (cells_le ..) (rows_le n k rk d a b m)
theorem rounds_le (n:Nat) (d:Tab) (a b:Nat) (k:Nat):∀ m,rounds n d (k+m) a b≤rounds n d k a b
 | 0=>Int.le_refl _
 | m+1=>Int.le_trans (rows_le ..) (rounds_le n d a b k m)
theorem pl_zero {bs:List (Int×Int×Int)} {B:Int} {i j:Nat} {x:Int} (hB:B≤1000000000000000000) (h:Ent bs B i j x):pl x 0=x:=by
 unfold pl
 rcases h with h | ⟨h1,h2,_⟩
 ·rw [if_pos (.inl h),h]
 ·rw [if_neg (by omega),wrap_in (by omega) (by omega)];omega
theorem cells_zero {bs:List (Int×Int×Int)} {B:Int} {k i:Nat} {rk:Nat→Int} {d:Tab} (hB:B≤1000000000000000000) (hz:rk k=0) (hd:Ent bs B i k (d i k)) :
  ∀ m,cells k rk i d m i k=d i k∧∀ j,cells k rk i d m i j=if j<m then min (d i j) (pl (d i k) (rk j)) else d i j
 | 0=>⟨rfl,fun j=>by rw [if_neg (by omega)];rfl⟩
 | m+1=>by
  obtain ⟨h1,h2⟩:=cells_zero hB hz hd m
  have hall:∀ j,cells k rk i d (m+1) i j=if j<m+1 then min (d i j) (pl (d i k) (rk j)) else d i j:=fun j=>by
   show upd _ i m _ i j=_
   unfold upd
   rw [h1]
   by_cases e:j=m
   ·subst e
    rw [if_pos ⟨rfl,rfl⟩,if_pos (by omega),h2 j,if_neg (by omega)]
   ·rw [if_neg fun h=>e h.2,h2 j]
    by_cases e2:j<m
    ·rw [if_pos e2,if_pos (by omega)]
    ·rw [if_neg e2,if_neg (by omega)]
  refine ⟨?_,hall⟩
  rw [hall k,hz,pl_zero hB hd,Int.min_self]
  split<;>rfl
theorem rows_zero {bs:List (Int×Int×Int)} {B:Int} {n k:Nat} {d:Tab} (hB:B≤1000000000000000000) (hz:d k k=0) (hk:k<n) (hd:EntT bs B n d) :
  ∀ m,m≤n→∀ i j,i<n→j<n→rows n k (d k) d m i j=if i<m then min (d i j) (pl (d i k) (d k j)) else d i j
 | 0,_,i,j,_,_=>by rw [if_neg (by omega)];rfl
 | m+1,hm,i,j,hi,hj=>by
  have ih:=rows_zero hB hz hk hd m (by omega)
  show cells k (d k) m (rows n k (d k) d m) n i j=_
  by_cases e:i=m
  ·subst e
   have e1:∀ b,b<n→rows n k (d k) d i i b=d i b:=fun b hb=>by rw [ih i b hi hb,if_neg (by omega)]
   have hc:=(cells_zero (bs:=bs) (i:=i) (d:=rows n k (d k) d i) hB hz (by rw [e1 k hk];exact hd i k hi hk) n).2 j
   rw [hc,if_pos hj,if_pos (by omega),e1 j hj,e1 k hk]
  ·rw [cells_other e,ih i j hi hj]
   by_cases e2:i<m
   ·rw [if_pos e2,if_pos (by omega)]
   ·rw [if_neg e2,if_neg (by omega)]
theorem round_zero {bs:List (Int×Int×Int)} {B:Int} {n k:Nat} {d:Tab} (hB:B≤1000000000000000000) (hz:d k k=0) (hk:k<n) (hd:EntT bs B n d) {i j:Nat} (hi:i<n) (hj:j<n) :
  rows n k (d k) d n i j=min (d i j) (pl (d i k) (d k j)):=by
 rw [rows_zero hB hz hk hd n (Nat.le_refl _) i j hi hj,if_pos hi]
end Go.Proofs.YthfgccfaildmfaaGreatDoor
namespace Go.Proofs.YthfgccfaildmfaaGreatDoor
open Go Go.Abs Go.PE
def Sz (x:Int):Prop:=x=1152921504606846976∨(-200000000000000000≤x∧x≤200000000000000000)
theorem pl_cases {x y:Int} (hx:Sz x) (hy:Sz y):((x=1152921504606846976∨y=1152921504606846976)∧pl x y=1152921504606846976)∨(x<1000000000000000000∧y<1000000000000000000∧pl x y=x+y):=by
 unfold pl
 by_cases e:x=1152921504606846976∨y=1152921504606846976
 ·exact .inl ⟨e,by rw [if_pos e]⟩
 ·unfold Sz at hx hy
  refine .inr ⟨by omega,by omega,?_⟩
  rw [if_neg e,wrap_in (by omega) (by omega)]
theorem pl_le_add {x y z:Int} (hx:Sz x) (hy:Sz y) (h:x<1000000000000000000→y<1000000000000000000→z≤x+y) (hz:z≤1152921504606846976):z≤pl x y:=by
 rcases pl_cases hx hy with ⟨_,e⟩ | ⟨h1,h2,e⟩
 ·rw [e];exact hz
 ·rw [e];exact h h1 h2
theorem le_of_pl {x y z:Int} (hx:Sz x) (hy:Sz y) (h:z≤pl x y) (h1:x<1000000000000000000) (h2:y<1000000000000000000):z≤x+y:=by
 rcases pl_cases hx hy with ⟨h3,e⟩ | ⟨_,_,e⟩
 ·omega
 ·rw [e] at h;exact h
def Tri (n k:Nat) (d:Tab):Prop:=∀ l i j,l<k→l<n→i<n→j<n→d i j≤pl (d i l) (d l j)
set_option maxHeartbeats 4000000 in
theorem tri_step {n k:Nat} {d D:Tab} (hs:∀ i j,i<n→j<n→d i j=1152921504606846976∨(-100000000000000000≤d i j∧d i j≤100000000000000000)) (hD:∀ i j,i<n→j<n→D i j=min (d i j) (pl (d i k) (d k j)))
  (hz:d k k=0) (hk:k<n) (h:Tri n k d):Tri n (k+1) D:=by
 intro l i j hlk hl hi hj
 have S:∀ i j,i<n→j<n→Sz (d i j):=fun i j hi hj=>by have:=hs i j hi hj;unfold Sz;omega
 have C:∀ i l j,i<n→l<n→j<n→_:=fun i l j hi hl hj=>pl_cases (S i l hi hl) (S l j hl hj)
 have c1:=C i k j hi hk hj
 have c2:=C i k l hi hk hl
 have c3:=C l k j hl hk hj
 have sij:=hs i j hi hj
 have sil:=hs i l hi hl
 have slj:=hs l j hl hj
 have sik:=hs i k hi hk
 have skj:=hs k j hk hj
 have skl:=hs k l hk hl
 have slk:=hs l k hl hk
 have e1:=hD i j hi hj
 have e2:=hD i l hi hl
 have e3:=hD l j hl hj
 refine pl_le_add (by unfold Sz;omega) (by unfold Sz;omega) ?_ (by omega)
 intro f1 f2
 by_cases e:l=k
 ·subst e
  rw [hz] at c2 c3 e2 e3
  omega
 ·have hlk':l<k:=by omega
  have t1:=fun a b=>le_of_pl (S i l hi hl) (S l j hl hj) (h l i j hlk' hl hi hj) a b
  have t2:=fun a b=>le_of_pl (S k l hk hl) (S l j hl hj) (h l k j hlk' hl hk hj) a b
  have t3:=fun a b=>le_of_pl (S i l hi hl) (S l k hl hk) (h l i k hlk' hl hi hk) a b
  have t4:=fun a b=>le_of_pl (S k l hk hl) (S l k hl hk) (h l k k hlk' hl hk hk) a b
  rw [hz] at t4
  rcases c1 with ⟨a1,a2⟩ | ⟨a1,a2,a3⟩<;>rcases c2 with ⟨b1,b2⟩ | ⟨b1,b2,b3⟩<;>rcases c3 with ⟨g1,g2⟩ | ⟨g1,g2,g3⟩<;>omega
end Go.Proofs.YthfgccfaildmfaaGreatDoor
namespace Go.Proofs.YthfgccfaildmfaaGreatDoor
open Go Go.Abs Go.PE
theorem addB_le (d:Tab) (c:Int×Int×Int) (a b:Nat):addB d c a b≤d a b:=by
 unfold addB upd
 split
 ·rename_i e;rw [e.1,e.2];exact Int.min_le_left _ _
 ·exact Int.le_refl _
theorem bounds_le:∀ (cs:List (Int×Int×Int)) (d:Tab) (a b:Nat),cs.foldl addB d a b≤d a b
 | [],_,_,_=>Int.le_refl _
 | c::cs,d,a,b=>Int.le_trans (bounds_le cs (addB d c) a b) (addB_le d c a b)
theorem fw_diag {n:Nat} {bs:List (Int×Int×Int)} (h:ovl (fw n bs) n=false) {k i:Nat} (hk:k≤n) (hi:i<n):rounds n (bs.foldl addB d0) k i i=0:=by
 have h1:¬ fw n bs i i<0:=fun hlt=>by
  rw [(ovl_iff _ _).2 ⟨i,hi,hlt⟩] at h;cases h
 have h2:=rounds_le n (bs.foldl addB d0) i i k (n-k)
 have e:k+(n-k)=n:=by omega
 rw [e] at h2
 have h3:=rounds_le n (bs.foldl addB d0) i i 0 k
 rw [Nat.zero_add] at h3
 have h4:bs.foldl addB d0 i i≤d0 i i:=bounds_le bs d0 i i
 have h5:d0 i i=0:=by simp [d0]
 unfold fw at h1
 have h6:rounds n (bs.foldl addB d0) 0 i i=bs.foldl addB d0 i i:=rfl
 omega
theorem rounds_tri {n:Nat} (hn:n≤16) {bs:List (Int×Int×Int)} (hb:bs.all (bnd (n:Int))=true) (h:ovl (fw n bs) n=false):∀ k,k≤n→Tri n k (rounds n (bs.foldl addB d0) k)
 | 0,_=>fun l i j hl=>by omega
 | k+1,hk=>by
  have h0:=bounds_ent (n:=n) (bs:=bs) bs d0 (fun c hc=>⟨hc,List.all_eq_true.1 hb c hc⟩) d0_ent
  have hE:EntT bs 100000000000000000 n (rounds n (bs.foldl addB d0) k):=fun i j hi hj=>(rounds_ent hn h0 k (by omega) i j hi hj).mono (size_le (by omega))
  have hz:=fw_diag h (k:=k) (by omega) (show k<n by omega)
  refine tri_step (k:=k) (d:=rounds n (bs.foldl addB d0) k) (fun i j hi hj=>?_) (fun i j hi hj=>round_zero (bs:=bs) (by omega) hz (by omega) hE hi hj) hz (by omega) (rounds_tri hn hb h k (by omega))
  rcases hE i j hi hj with e | ⟨e1,e2,_⟩
  ·exact .inl e
  ·exact .inr ⟨e1,e2⟩
theorem fw_tri {n:Nat} (hn:n≤16) {bs:List (Int×Int×Int)} (hb:bs.all (bnd (n:Int))=true) (h:ovl (fw n bs) n=false):Tri n n (fw n bs):=rounds_tri hn hb h n (Nat.le_refl _)
end Go.Proofs.YthfgccfaildmfaaGreatDoor
namespace Go.Proofs.YthfgccfaildmfaaGreatDoor
open Go Go.Abs Go.PE
theorem bounds_bound {n:Nat}:∀ (cs:List (Int×Int×Int)) (d:Tab) (a b:Nat) (m:Int),((a:Int),(b:Int),m)∈cs→cs.foldl addB d a b≤m
 | c::cs,d,a,b,m,h=>by
  rcases List.mem_cons.1 h with h | h
  ·subst h
   refine Int.le_trans (bounds_le cs _ a b) ?_
   unfold addB upd
   have ha:((a:Int)).toNat=a:=by omega
   have hb:((b:Int)).toNat=b:=by omega
   simp only [ha,hb,and_self,if_true]
   exact Int.min_le_right _ _
  ·exact bounds_bound (n:=n) cs (addB d c) a b m h
theorem fw_bound {n:Nat} {bs:List (Int×Int×Int)} {a b:Nat} {m:Int} (h:((a:Int),(b:Int),m)∈bs):fw n bs a b≤m:=by
 have h2:=rounds_le n (bs.foldl addB d0) a b 0 n
 rw [Nat.zero_add] at h2
 exact Int.le_trans h2 (bounds_bound (n:=n) bs d0 a b m h)
theorem fw_least {n:Nat} (hn:n≤16) {bs:List (Int×Int×Int)} (hb:bs.all (bnd (n:Int))=true) (h:ovl (fw n bs) n=false) {i j:Nat} {w:Int} (hi:i<n) (hw:Wk bs i j w):j<n∧fw n bs i j<1000000000000000000∧fw n bs i j≤w:=by
 have hE:=fw_ent hn hb
 have S:∀ i j,i<n→j<n→Sz (fw n bs i j):=fun i j hi hj=>by
  rcases hE i j hi hj with e | ⟨e1,e2,_⟩
  ·exact .inl e
  ·exact .inr ⟨by omega,by omega⟩
 induction hw with
 | nil =>
  have e:fw n bs i i=0:=fw_diag h (Nat.le_refl n) hi
  exact ⟨hi,by omega,by omega⟩
 | @snoc a b w m hw hm ih =>
  obtain ⟨ha,hf,hle⟩:=ih
  have hbd:=List.all_eq_true.1 hb _ hm
  have hbd:=of_decide_eq_true hbd
  have hbn:b<n:=by have:=hbd.2.2.2.1;simp only at this;omega
  refine ⟨hbn,?_⟩
  have h1:=fw_bound (n:=n) hm
  have h2:=fw_tri hn hb h a i b ha ha hi hbn
  have h3:=hbd.2.2.2.2.2
  simp only at h3
  rcases pl_cases (S i a hi ha) (S a b ha hbn) with ⟨h4 | h4,_⟩ | ⟨_,_,e⟩
  ·omega
  ·omega
  ·rw [e] at h2
   have s1:=S i a hi ha
   have s2:=S i b hi hbn
   unfold Sz at s1 s2
   omega
end Go.Proofs.YthfgccfaildmfaaGreatDoor
namespace Go.Proofs.YthfgccfaildmfaaGreatDoor
open Go Go.Abs Go.PE
theorem Wk.cons {bs:List (Int×Int×Int)} {i a b:Nat} {w m:Int} (hm:((i:Int),(a:Int),m)∈bs) (h:Wk bs a b w):Wk bs i b (m+w):=by
 have h1:Wk bs i a (0+m):=(Wk.nil i).snoc hm
 rw [Int.zero_add] at h1
 exact h1.trans h
end Go.Proofs.YthfgccfaildmfaaGreatDoor
namespace Go.Proofs.YthfgccfaildmfaaGreatDoor
open Go Go.Abs Go.PE
abbrev Num:=Int×List Int×List (Int×Int×Int)×Int
def i64 (n:Int):Prop:=-9223372036854775808≤n∧n≤9223372036854775807
def nH (x:Num):Nat:=1+(pk x.1 8).toNat
def hidf (x:Num) (i:Nat):Int:=match x.2.1[i]? with
 | some v=>pk v 200-100
 | none=>0
def hid (x:Num):List Int:=row (nH x) (hidf x)
def keeps (y:List Int) (c:Int×Int×Int):Bool:=decide (y.getD c.2.1.toNat 0-y.getD c.1.toNat 0≤c.2.2)
def smallV (v:Int):Bool:=decide (-1000000000000≤v∧v≤1000000000000)
def allw (x:Int×List (Int×Int×Int)) (y:List Int):Bool:=sys x&&decide ((y.length:Int)=x.1)&&y.all smallV&&x.2.all (keeps y)
theorem m97_eq (v:Int):m97 v=some (!smallV v):=by
 unfold m97 m98 smallV
 simp only [Option.bind_some,Bool.decide_and,PE.notM,PE.andM]
theorem idx_getD {y:List Int} {i:Int} (h0:0≤i) (h:i<y.length):idxM y i=some (y.getD i.toNat 0):=by
 rw [idxM_of h0 h]
 congr 1
 rw [List.getD_eq_getElem?_getD,List.getElem?_eq_getElem (by omega)]
 rfl
theorem sys_bnd {x:Int×List (Int×Int×Int)} (h:sys x=true):(0≤x.1∧x.1≤16∧x.2.length≤60)∧∀ c∈x.2,0≤c.1∧c.1<x.1∧0≤c.2.1∧c.2.1<x.1∧-1000000000≤c.2.2∧c.2.2≤1000000000:=by
 unfold sys at h
 rw [Bool.and_eq_true] at h
 refine ⟨of_decide_eq_true h.1,fun c hc=>?_⟩
 exact of_decide_eq_true (List.all_eq_true.1 h.2 c hc)
theorem small_getD {y:List Int} (h:y.all smallV=true) (i:Nat):-1000000000000≤y.getD i 0∧y.getD i 0≤1000000000000:=by
 rw [List.getD_eq_getElem?_getD]
 by_cases hi:i<y.length
 ·rw [List.getElem?_eq_getElem hi]
  exact of_decide_eq_true (List.all_eq_true.1 h _ (List.getElem_mem hi))
 ·rw [List.getElem?_eq_none (by omega)]
  decide
theorem m56_eq (x:Int×List (Int×Int×Int)) (y:List Int):m56 (x,y)=some (allw x y):=by
 unfold m56
 dsimp only
 rw [show (x.1,x.2)=x from rfl,m64_eq,Option.bind_some]
 unfold allw
 by_cases h:sys x=true∧(y.length:Int)=x.1
 ·obtain ⟨h1,h2⟩:=h
  have hs:=sys_bnd h1
  rw [h1,eqI h2,notT,orF,notF,cond_true,decide_eq_true h2]
  rw [any_loop (xs:=y) (fun v=>!smallV v)]
  ·rw [Option.bind_some,orF]
   by_cases h3:y.all smallV=true
   ·have h4:y.any (fun v=>!smallV v)=false:=by
     rw [List.any_eq_false]
     intro v hv
     rw [List.all_eq_true.1 h3 v hv]
     decide
    rw [h4,cond_false,h3]
    have hsm:=small_getD h3
    obtain ⟨o,e1,e2⟩:=find_loop (xs:=x.2) (fun c=>!keeps y c) (body:=fun (s:Int) =>
         bif ltM s (lenM x.2) then
          Option.bind (idxM x.2 s) fun (r_1:Int×Int×Int) =>
           Option.bind (idxM y r_1.2.1) fun (r_2:Int) =>
            Option.bind (idxM y r_1.1) fun (r:Int) =>
             bif ltM r_1.2.2 (IntKind.wrap IntKind.i64 (r_2-r)) then some (Sum.inr (Sum.inr s))
             else some (Sum.inl (IntKind.wrap IntKind.i64 (s+(1:Int))))
         else some (Sum.inr (Sum.inl ()))) (fun k hk=>by
      obtain ⟨g1,g2,g3,g4,_⟩:=hs.2 _ (List.getElem_mem hk)
      rw [ltI (by show (k:Int)<(x.2.length:Int);omega),cond_true,idxM_lt hk,Option.bind_some,idx_getD g3 (by omega),Option.bind_some,idx_getD g1 (by omega),Option.bind_some]
      have u1:=hsm x.2[k].1.toNat
      have u2:=hsm x.2[k].2.1.toNat
      rw [wrap_in (n:=y.getD x.2[k].2.1.toNat 0-y.getD x.2[k].1.toNat 0) (by omega) (by omega),wrap_in (by omega) (by omega)]
      unfold keeps
      by_cases e:y.getD x.2[k].2.1.toNat 0-y.getD x.2[k].1.toNat 0≤x.2[k].2.2
      ·rw [geI e,decide_eq_true e];rfl
      ·rw [ltI (by omega),decide_eq_false e];rfl) (by
      rw [geI (Int.le_refl _)];rfl)
    rw [e1,Option.bind_some]
    rcases e2 with ⟨rfl,e2⟩ | ⟨k,hk,rfl,e2,_⟩
    ·have:x.2.all (keeps y)=true:=List.all_eq_true.2 fun c hc=>by
      obtain ⟨i,hi,rfl⟩:=List.mem_iff_getElem.1 hc
      have:=e2 i hi
      simpa using this
     rw [this]
     rfl
    ·have:x.2.all (keeps y)=false:=by
      rw [Bool.eq_false_iff]
      intro hall
      have:=List.all_eq_true.1 hall _ (List.getElem_mem hk)
      rw [this] at e2
      cases e2
     rw [this]
     show some (PE.notM (decide ((0:Int)≤(k:Int))))=_
     rw [decide_eq_true (by omega)]
     rfl
   ·have h4:y.any (fun v=>!smallV v)=true:=by
     rw [List.all_eq_not_any_not] at h3
     simpa using h3
    rw [h4,cond_true]
    have:y.all smallV=false:=by simpa using h3
    rw [this]
    simp
  ·intro k hk
   rw [ltI (by show (k:Int)<(y.length:Int);omega),cond_true,idxM_lt hk,Option.bind_some,m97_eq,Option.bind_some,wrap_in (by omega) (by omega)]
   cases smallV y[k]<;>rfl
  ·rw [geI (Int.le_refl _)];rfl
 ·have e:PE.orM (PE.notM (sys x)) (PE.notM (eqM (lenM y) x.1))=true:=by
   by_cases h1:sys x=true
   ·have h2:¬ (y.length:Int)=x.1:=fun h2=>h ⟨h1,h2⟩
    rw [h1,neI h2];rfl
   ·have:sys x=false:=by simpa using h1
    rw [this];rfl
  rw [e,notT,cond_false,Option.bind_some]
  show some false=_
  have:(sys x&&decide ((y.length:Int)=x.1))=false:=by
   rw [Bool.eq_false_iff]
   intro h'
   rw [Bool.and_eq_true] at h'
   exact h ⟨h'.1,of_decide_eq_true h'.2⟩
  rw [this]
  rfl
end Go.Proofs.YthfgccfaildmfaaGreatDoor
namespace Go.Proofs.YthfgccfaildmfaaGreatDoor
open Go Go.Abs Go.PE
def less (x:Num) (c:Int×Int×Int):Int×Int×Int:=(c.1,c.2.1,c.2.2-10-pk (x.2.2.2.tdiv 60) 60)
theorem row_mem {α:Type} {m:Nat} {g:Nat→α} {a:α} (h:a∈row m g):∃ i,i<m∧g i=a:=by
 obtain ⟨i,hi⟩:=List.mem_iff_getElem?.1 h
 by_cases h':i<m
 ·rw [row_get h'] at hi;exact ⟨i,h',by simpa using hi⟩
 ·rw [List.getElem?_eq_none (by rw [row_length];omega)] at hi;cases hi
end Go.Proofs.YthfgccfaildmfaaGreatDoor
namespace Go.Proofs.YthfgccfaildmfaaGreatDoor
open Go Go.Abs Go.PE
abbrev Sys:=Int×List (Int×Int×Int)
def ovS (x:Sys):Bool:=ovl (fw x.1.toNat x.2) x.1.toNat
def fwS (x:Sys):Tab:=fw x.1.toNat x.2
theorem sys_all {x:Sys} (h:sys x=true):x.1.toNat≤16∧x.2.all (bnd (x.1.toNat:Int))=true∧((x.1.toNat:Nat):Int)=x.1:=by
 have hs:=sys_bnd h
 have e:((x.1.toNat:Nat):Int)=x.1:=by omega
 refine ⟨by omega,?_,e⟩
 rw [e]
 unfold sys at h
 rw [Bool.and_eq_true] at h
 exact h.2
theorem walk_stays {n:Nat} {bs:List (Int×Int×Int)} (hb:bs.all (bnd (n:Int))=true) {i j:Nat} {w:Int} (hi:i<n) (h:Wk bs i j w):j<n:=by
 induction h with
 | nil=>exact hi
 | snoc _ hm _ =>
  have:=of_decide_eq_true (List.all_eq_true.1 hb _ hm)
  simp only at this
  omega
theorem allw_keep {x:Sys} {y:List Int} (h:allw x y=true) {a b:Nat} {m:Int} (hm:((a:Int),(b:Int),m)∈x.2):y.getD b 0-y.getD a 0≤m:=by
 unfold allw at h
 rw [Bool.and_eq_true] at h
 have:=of_decide_eq_true (List.all_eq_true.1 h.2 _ hm)
 exact this
theorem allw_parts {x:Sys} {y:List Int} (h:allw x y=true):sys x=true∧(y.length:Int)=x.1∧y.all smallV=true:=by
 unfold allw at h
 rw [Bool.and_eq_true,Bool.and_eq_true,Bool.and_eq_true] at h
 exact ⟨h.1.1.1,of_decide_eq_true h.1.1.2,h.1.2⟩
theorem allw_of {x:Sys} {y:List Int} (h1:sys x=true) (h2:(y.length:Int)=x.1) (h3:∀ i,i<y.length→-1000000000000≤y.getD i 0∧y.getD i 0≤1000000000000) (h4:∀ a b:Nat,∀ m:Int,((a:Int),(b:Int),m)∈x.2→y.getD b 0-y.getD a 0≤m):allw x y=true:=by
 unfold allw
 rw [h1,decide_eq_true h2]
 simp only [Bool.true_and,Bool.and_eq_true]
 refine ⟨List.all_eq_true.2 fun v hv=>?_,List.all_eq_true.2 fun c hc=>decide_eq_true ?_⟩
 ·obtain ⟨i,hi,rfl⟩:=List.mem_iff_getElem.1 hv
  have:=h3 i hi
  rw [List.getD_eq_getElem?_getD,List.getElem?_eq_getElem hi] at this
  exact decide_eq_true this
 ·have hb:=(sys_bnd h1).2 c hc
  refine h4 _ _ _ ?_
  have e1:((c.1.toNat:Nat):Int)=c.1:=by omega
  have e2:((c.2.1.toNat:Nat):Int)=c.2.1:=by omega
  rw [e1,e2]
  exact hc
theorem ov_walk {x:Sys} (hs:sys x=true) (h:ovS x=true):∃ i w,i<x.1.toNat∧w<0∧Wk x.2 i i w:=by
 obtain ⟨hn,hb,_⟩:=sys_all hs
 obtain ⟨i,hi,hlt⟩:=(ovl_iff _ _).1 h
 rcases fw_ent hn hb i i hi hi with e | ⟨_,_,e⟩
 ·omega
 ·exact ⟨i,_,hi,hlt,e⟩
theorem ov_of_walk {x:Sys} (hs:sys x=true) {i:Nat} {w:Int} (hi:i<x.1.toNat) (hw:w<0) (h:Wk x.2 i i w):ovS x=true:=by
 obtain ⟨hn,hb,_⟩:=sys_all hs
 cases hov:ovS x with
 | true=>rfl
 | false =>
  obtain ⟨_,_,h3⟩:=fw_least hn hb hov hi h
  have:=fw_diag (bs:=x.2) hov (Nat.le_refl _) hi
  have e:fw x.1.toNat x.2 i i=rounds x.1.toNat (x.2.foldl addB d0) x.1.toNat i i:=rfl
  omega
theorem fw_cases {x:Sys} (hs:sys x=true) (ho:ovS x=false) {i j:Nat} (hi:i<x.1.toNat) (hj:j<x.1.toNat) :
  (fwS x i j=1152921504606846976∧∀ w,¬ Wk x.2 i j w)∨(-100000000000000000≤fwS x i j∧fwS x i j≤100000000000000000∧Wk x.2 i j (fwS x i j)∧∀ w,Wk x.2 i j w→fwS x i j≤w):=by
 obtain ⟨hn,hb,_⟩:=sys_all hs
 rcases fw_ent hn hb i j hi hj with e | ⟨e1,e2,e3⟩
 ·refine .inl ⟨e,fun w hw=>?_⟩
  have:=(fw_least hn hb ho hi hw).2.1
  omega
 ·exact .inr ⟨e1,e2,e3,fun w hw=>(fw_least hn hb ho hi hw).2.2⟩
theorem fw_self {x:Sys} (ho:ovS x=false) {i:Nat} (hi:i<x.1.toNat):fwS x i i=0:=fw_diag (bs:=x.2) ho (Nat.le_refl _) hi
theorem m25_good {x:Sys} (hs:sys x=true) (h:ovS x=false):m25 x=some (rt x.1.toNat (fun _=>x.1.toNat) (fwS x),0):=by
 rw [m25_eq,hs]
 unfold ovS at h
 rw [h]
 rfl
theorem m25_bad {x:Sys} (hs:sys x=true) (h:ovS x=true):m25 x=some ([],90):=by
 rw [m25_eq,hs]
 unfold ovS at h
 rw [h]
 rfl
theorem row_getD {m:Nat} {g:Nat→Int} {i:Nat} (h:i<m):(row m g).getD i 0=g i:=by
 rw [List.getD_eq_getElem?_getD,row_get h]
 rfl
theorem allw_row {x:Sys} {g:Nat→Int} (h1:sys x=true):allw x (row x.1.toNat g)=true↔(∀ i,i<x.1.toNat→-1000000000000≤g i∧g i≤1000000000000)∧∀ a b:Nat,∀ m:Int,((a:Int),(b:Int),m)∈x.2→g b-g a≤m:=by
 obtain ⟨hn,hb,he⟩:=sys_all h1
 have hlt:∀ {a b:Nat} {m:Int},((a:Int),(b:Int),m)∈x.2→a<x.1.toNat∧b<x.1.toNat:=fun hm=>by
  have:=(sys_bnd h1).2 _ hm
  simp only at this
  omega
 constructor
 ·intro h
  obtain ⟨_,_,h3⟩:=allw_parts h
  refine ⟨fun i hi=>?_,fun a b m hm=>?_⟩
  ·have:=small_getD h3 i
   rw [row_getD hi] at this
   exact this
  ·have:=allw_keep h hm
   have l:=hlt hm
   rw [row_getD l.1,row_getD l.2] at this
   exact this
 ·intro ⟨h2,h3⟩
  refine allw_of h1 (by rw [row_length];exact he) (fun i hi=>?_) fun a b m hm=>?_
  ·rw [row_length] at hi
   rw [row_getD hi]
   exact h2 i hi
  ·have l:=hlt hm
   rw [row_getD l.1,row_getD l.2]
   exact h3 a b m hm
end Go.Proofs.YthfgccfaildmfaaGreatDoor
namespace Go.Proofs.YthfgccfaildmfaaGreatDoor
open Go Go.Abs Go.PE
end Go.Proofs.YthfgccfaildmfaaGreatDoor
namespace Go.Proofs.YthfgccfaildmfaaGreatDoor
open Go Go.Abs Go.PE
def solf (d:Tab):Nat→Nat→Int
 | 0,_=>0
 | i+1,k=>min (solf d i k) (d i k)
def sol (x:Sys) (k:Nat):Int:=solf (fwS x) x.1.toNat k
theorem lenRow {α:Type} (m:Nat) (g:Nat→α):lenM (row m g)=(m:Int):=by show ((row m g).length:Int)=_;rw [row_length]
end Go.Proofs.YthfgccfaildmfaaGreatDoor
namespace Go.Proofs.YthfgccfaildmfaaGreatDoor
open Go Go.Abs Go.PE
end Go.Proofs.YthfgccfaildmfaaGreatDoor
namespace Go.Proofs.YthfgccfaildmfaaGreatDoor
open Go Go.Abs Go.PE
def there (x:Sys) (k i:Nat):Int:=if fwS x k i=1152921504606846976 then 1000000000+sol x i else fwS x k i
end Go.Proofs.YthfgccfaildmfaaGreatDoor
namespace Go.Proofs.YthfgccfaildmfaaGreatDoor
open Go Go.Abs Go.PE
inductive WN (bs:List (Int×Int×Int)):Nat→Nat→Nat→Int→Prop
 | nil (i:Nat):WN bs i i 0 0
 | cons {i a j m:Nat} {c w:Int}:((i:Int),(a:Int),c)∈bs→WN bs a j m w→WN bs i j (m+1) (c+w)
section
variable {bs:List (Int×Int×Int)}
theorem WN.one {i a:Nat} {c:Int} (h:((i:Int),(a:Int),c)∈bs):WN bs i a 1 c:=by
 have:=WN.cons h (WN.nil a)
 rw [Int.add_zero] at this
 exact this
theorem WN.trans {i j k m m':Nat} {w w':Int} (h:WN bs i j m w) (h2:WN bs j k m' w'):WN bs i k (m+m') (w+w'):=by
 induction h with
 | nil=>rw [Nat.zero_add,Int.zero_add];exact h2
 | @cons i a j m c w hm _ ih =>
  rw [Nat.add_right_comm,Int.add_assoc]
  exact .cons hm (ih h2)
theorem WN.snoc {i a b m:Nat} {w c:Int} (h:WN bs i a m w) (hm:((a:Int),(b:Int),c)∈bs):WN bs i b (m+1) (w+c):=h.trans (.one hm)
theorem WN.wk {i j m:Nat} {w:Int} (h:WN bs i j m w):Wk bs i j w:=by
 induction h with
 | nil=>exact .nil _
 | cons hm _ ih=>exact Wk.cons hm ih
theorem Wk.wn {i j:Nat} {w:Int} (h:Wk bs i j w):∃ m,WN bs i j m w:=by
 induction h with
 | nil=>exact ⟨0,.nil _⟩
 | snoc _ hm ih =>
  obtain ⟨m,h⟩:=ih
  exact ⟨m+1,h.snoc hm⟩
theorem WN.zero {i j:Nat} {w:Int} (h:WN bs i j 0 w):i=j∧w=0:=by
 cases h
 exact ⟨rfl,rfl⟩
theorem WN.last {i j m:Nat} {w:Int} (h:WN bs i j (m+1) w):∃ a c w',WN bs i a m w'∧((a:Int),(j:Int),c)∈bs∧w=w'+c:=by
 generalize hk:m+1=k at h
 induction h generalizing m with
 | nil=>omega
 | @cons i a j m' c w hm h1 ih =>
  cases m with
  | zero =>
   have:m'=0:=by omega
   subst this
   obtain ⟨rfl,rfl⟩:=h1.zero
   exact ⟨i,c,0,.nil _,hm,by omega⟩
  | succ m =>
   obtain ⟨b,c',w',h2,h3,h4⟩:=ih (m:=m) (by omega)
   exact ⟨b,c',c+w',.cons hm h2,h3,by omega⟩
theorem WN.stations {i j m:Nat} {w:Int} (h:WN bs i j m w):∃ (v:Nat→Nat) (s:Nat→Int),v 0=i∧v m=j∧s 0=0∧s m=w∧∀ k,k<m→((v k:Int),(v (k+1):Int),s (k+1)-s k)∈bs:=by
 induction h with
 | nil i=>exact ⟨fun _=>i,fun _=>0,rfl,rfl,rfl,rfl,fun k hk=>by omega⟩
 | @cons i a j m c w hm _ ih =>
  obtain ⟨v,s,h0,h1,h2,h3,h4⟩:=ih
  refine ⟨fun k=>match k with | 0=>i | k+1=>v k,fun k=>match k with | 0=>0 | k+1=>c+s k,rfl,h1,rfl,by show c+s m=_;rw [h3],fun k hk=>?_⟩
  cases k with
  | zero =>
   show ((i:Int),(v 0:Int),c+s 0-0)∈bs
   rw [h0,h2,Int.add_zero,Int.sub_zero]
   exact hm
  | succ k =>
   have:=h4 k (by omega)
   show ((v k:Int),(v (k+1):Int),c+s (k+1)-(c+s k))∈bs
   have e:c+s (k+1)-(c+s k)=s (k+1)-s k:=by omega
   rw [e]
   exact this
theorem seg {m:Nat} {v:Nat→Nat} {s:Nat→Int} (h:∀ k,k<m→((v k:Int),(v (k+1):Int),s (k+1)-s k)∈bs) (a:Nat):∀ d,a+d≤m→WN bs (v a) (v (a+d)) d (s (a+d)-s a)
 | 0,_=>by
  have e:s (a+0)-s a=0:=by rw [Nat.add_zero];omega
  rw [e]
  exact .nil _
 | d+1,hd=>by
  have h1:=(seg h a d (by omega)).snoc (h (a+d) (by omega))
  have e:s (a+d)-s a+(s (a+d+1)-s (a+d))=s (a+(d+1))-s a:=by rw [Nat.add_assoc];omega
  rw [e] at h1
  exact h1
end
theorem pigeon:∀ (n:Nat) (v:Nat→Nat),(∀ k,k≤n→v k<n)→∃ a b,a<b∧b≤n∧v a=v b
 | 0,v,h=>absurd (h 0 (Nat.le_refl _)) (Nat.not_lt_zero _)
 | n+1,v,h=>by
  by_cases hx:∃ k,k≤n∧v k=v (n+1)
  ·obtain ⟨k,hk,e⟩:=hx
   exact ⟨k,n+1,by omega,Nat.le_refl _,e⟩
  ·have hne:∀ k,k≤n→v k≠v (n+1):=fun k hk e=>hx ⟨k,hk,e⟩
   obtain ⟨a,b,hab,hb,e⟩:=pigeon n (fun k=>if v k=n then v (n+1) else v k) (fun k hk=>by
    have h1:=h k (by omega)
    have h2:=h (n+1) (Nat.le_refl _)
    have h3:=hne k hk
    split<;>omega)
   refine ⟨a,b,hab,by omega,?_⟩
   have h1:=hne a (by omega)
   have h2:=hne b hb
   split at e<;>split at e<;>omega
theorem WN.stays {n:Nat} {bs:List (Int×Int×Int)} (hb:bs.all (bnd (n:Int))=true) {i j m:Nat} {w:Int} (hi:i<n) (h:WN bs i j m w):j<n:=walk_stays hb hi h.wk
theorem WN.cut {n:Nat} {bs:List (Int×Int×Int)} (hb:bs.all (bnd (n:Int))=true) {i j m:Nat} {w:Int} (hi:i<n) (hm:n≤m) (h:WN bs i j m w) :
  ∃ u m1 m2 m3 w1 w2 w3,u<n∧1≤m2∧m2≤n∧m1+m2+m3=m∧w=w1+w2+w3∧WN bs i u m1 w1∧WN bs u u m2 w2∧WN bs u j m3 w3:=by
 obtain ⟨v,s,h0,h1,h2,h3,h4⟩:=h.stations
 have hv:∀ k,k≤m→v k<n:=fun k hk=>by
  have:=seg h4 0 k (by omega)
  rw [Nat.zero_add,h0] at this
  exact this.stays hb hi
 obtain ⟨a,b,hab,hbn,e⟩:=pigeon n v fun k hk=>hv k (by omega)
 have s1:=seg h4 0 a (by omega)
 have s2:=seg h4 a (b-a) (by omega)
 have s3:=seg h4 b (m-b) (by omega)
 rw [Nat.zero_add,h0,h2] at s1
 rw [show a+(b-a)=b by omega,← e] at s2
 rw [show b+(m-b)=m by omega,h1,h3,← e] at s3
 exact ⟨v a,a,b-a,m-b,_,_,_,hv a (by omega),by omega,by omega,by omega,by omega,s1,s2,s3⟩
theorem WN.short {n:Nat} {bs:List (Int×Int×Int)} (hb:bs.all (bnd (n:Int))=true) (hno:∀ u m w,u<n→WN bs u u m w→0≤w) {i j:Nat} (hi:i<n):∀ {m:Nat} {w:Int},WN bs i j m w→∃ m' w',m'<n∧w'≤w∧WN bs i j m' w':=by
 intro m
 induction m using Nat.strongRecOn with
 | ind m ih =>
  intro w h
  by_cases hm:m<n
  ·exact ⟨m,w,hm,Int.le_refl _,h⟩
  ·obtain ⟨u,m1,m2,m3,w1,w2,w3,hu,g1,_,g2,g3,g4,g5,g6⟩:=h.cut hb hi (by omega)
   have:=hno u m2 w2 hu g5
   obtain ⟨m',w',k1,k2,k3⟩:=ih (m1+m3) (by omega) (g4.trans g6)
   exact ⟨m',w',k1,by omega,k3⟩
theorem WN.cycle {n:Nat} {bs:List (Int×Int×Int)} (hb:bs.all (bnd (n:Int))=true):∀ (m:Nat) {i:Nat} {w:Int},i<n→w<0→WN bs i i m w→∃ i' m' w',i'<n∧1≤m'∧m'≤n∧w'<0∧WN bs i' i' m' w':=by
 intro m
 induction m using Nat.strongRecOn with
 | ind m ih =>
  intro i w hi hw h
  by_cases hm:m≤n
  ·refine ⟨i,m,w,hi,?_,hm,hw,h⟩
   cases m with
   | zero=>have:=h.zero.2;omega
   | succ m=>omega
  ·obtain ⟨u,m1,m2,m3,w1,w2,w3,hu,g1,g0,g2,g3,g4,g5,g6⟩:=h.cut hb hi (by omega)
   by_cases h2:w2<0
   ·exact ⟨u,m2,w2,hu,g1,g0,h2,g5⟩
   ·exact ih (m1+m3) (by omega) hi (by omega) (g4.trans g6)
theorem no_neg {x:Sys} (hs:sys x=true) (ho:ovS x=false) (u m:Nat) (w:Int) (hu:u<x.1.toNat) (h:WN x.2 u u m w):0≤w:=by
 refine Classical.byContradiction fun hn=>?_
 have:=ov_of_walk hs hu (by omega) h.wk
 rw [ho] at this
 cases this
end Go.Proofs.YthfgccfaildmfaaGreatDoor
namespace Go.Proofs.YthfgccfaildmfaaGreatDoor
open Go Go.Abs Go.PE
def farT:Tab:=fun _ _=>1152921504606846976
def addW (d t:Tab) (c:Int×Int×Int):Tab:=fun i j=>if j=c.2.1.toNat then min (t i j) (pl (d i c.1.toNat) c.2.2) else t i j
def nxt (bs:List (Int×Int×Int)) (d:Tab):Tab:=bs.foldl (addW d) farT
def wkT (bs:List (Int×Int×Int)):Nat→Tab
 | 0=>d0
 | m+1=>nxt bs (wkT bs m)
theorem addW_le (d t:Tab) (c:Int×Int×Int) (i j:Nat):addW d t c i j≤t i j:=by
 unfold addW
 split
 ·exact Int.min_le_left _ _
 ·exact Int.le_refl _
theorem foldW_le (d:Tab):∀ (cs:List (Int×Int×Int)) (t:Tab) (i j:Nat),cs.foldl (addW d) t i j≤t i j
 | [],_,_,_=>Int.le_refl _
 | c::cs,t,i,j=>Int.le_trans (foldW_le d cs _ i j) (addW_le d t c i j)
theorem foldW_bound (d:Tab):∀ (cs:List (Int×Int×Int)) (t:Tab) (i:Nat) (c:Int×Int×Int),c∈cs→cs.foldl (addW d) t i c.2.1.toNat≤pl (d i c.1.toNat) c.2.2
 | c'::cs,t,i,c,h=>by
  rcases List.mem_cons.1 h with rfl | h
  ·refine Int.le_trans (foldW_le d cs _ i _) ?_
   unfold addW
   rw [if_pos rfl]
   exact Int.min_le_right _ _
  ·exact foldW_bound d cs _ i c h
theorem foldW_is (d:Tab):∀ (cs:List (Int×Int×Int)) (t:Tab) (i j:Nat),cs.foldl (addW d) t i j=t i j∨∃ c,c∈cs∧c.2.1.toNat=j∧cs.foldl (addW d) t i j=pl (d i c.1.toNat) c.2.2
 | [],t,i,j=>.inl rfl
 | c::cs,t,i,j=>by
  rcases foldW_is d cs (addW d t c) i j with h | ⟨c',h1,h2,h3⟩
  ·rw [List.foldl_cons,h]
   unfold addW
   by_cases e:j=c.2.1.toNat
   ·rw [if_pos e]
    by_cases e2:t i j≤pl (d i c.1.toNat) c.2.2
    ·rw [Int.min_eq_left e2];exact .inl rfl
    ·rw [Int.min_eq_right (by omega)];exact .inr ⟨c,List.mem_cons_self ..,e.symm,rfl⟩
   ·rw [if_neg e];exact .inl rfl
  ·exact .inr ⟨c',List.mem_cons_of_mem _ h1,h2,h3⟩
def EntW (bs:List (Int×Int×Int)) (m i j:Nat) (x:Int):Prop :=
 (x=1152921504606846976∧∀ w,¬ WN bs i j m w)∨(-(m*1000000000)≤x∧x≤m*1000000000∧WN bs i j m x∧∀ w,WN bs i j m w→x≤w)
theorem pl_fin {a b:Int} (ha:-1000000000000000≤a∧a≤1000000000000000) (hb:-1000000000≤b∧b≤1000000000):pl a b=a+b:=by
 unfold pl
 rw [if_neg (by omega),wrap_in (by omega) (by omega)]
theorem pl_far (b:Int):pl 1152921504606846976 b=1152921504606846976:=by
 unfold pl
 rw [if_pos (.inl rfl)]
theorem wk_ent {n:Nat} {bs:List (Int×Int×Int)} (hb:bs.all (bnd (n:Int))=true):∀ m,m≤1000→∀ i j,i<n→j<n→EntW bs m i j (wkT bs m i j)
 | 0,_,i,j,hi,hj=>by
  show EntW bs 0 i j (d0 i j)
  unfold d0
  by_cases e:i=j
  ·subst e
   rw [if_pos rfl]
   exact .inr ⟨by omega,by omega,.nil i,fun w h=>by have:=h.zero.2;omega⟩
  ·rw [if_neg e]
   exact .inl ⟨rfl,fun w h=>e h.zero.1⟩
 | m+1,hm,i,j,hi,hj=>by
  have ih:=fun i j hi hj=>wk_ent hb m (by omega) i j hi hj
  have hsz:∀ a:Nat,a<n→wkT bs m i a=1152921504606846976∨(-(m*1000000000)≤wkT bs m i a∧wkT bs m i a≤m*1000000000):=fun a ha=>by
   rcases ih i a hi ha with ⟨e,_⟩ | ⟨e1,e2,_⟩
   ·exact .inl e
   ·exact .inr ⟨e1,e2⟩
  have hupper:∀ w,WN bs i j (m+1) w→wkT bs (m+1) i j≤w∧wkT bs (m+1) i j≤(m+1)*1000000000:=fun w hw=>by
   obtain ⟨a,c,w',h1,h2,h3⟩:=hw.last
   have ha:=h1.stays hb hi
   have hc:=of_decide_eq_true (List.all_eq_true.1 hb _ h2)
   simp only at hc
   have hf:=foldW_bound (wkT bs m) bs farT i _ h2
   have t1:((a:Int)).toNat=a:=by omega
   have t2:((j:Int)).toNat=j:=by omega
   simp only [t1,t2] at hf
   rcases ih i a hi ha with ⟨_,e⟩ | ⟨e1,e2,_,e4⟩
   ·exact absurd h1 (e _)
   ·rw [pl_fin (by omega) (by omega)] at hf
    have:=e4 _ h1
    have hh:wkT bs (m+1) i j≤wkT bs m i a+c:=hf
    omega
  rcases foldW_is (wkT bs m) bs farT i j with h | ⟨c,h1,h2,h3⟩
  ·have h':wkT bs (m+1) i j=1152921504606846976:=h
   refine .inl ⟨h',fun w hw=>?_⟩
   have:=(hupper w hw).2
   omega
  ·obtain ⟨a,b,ha,hb',e1,e2,e3,e4⟩:=bnd_of (List.all_eq_true.1 hb _ h1)
   have t1:c.1.toNat=a:=by omega
   have t2:b=j:=by omega
   subst t2
   have h3':wkT bs (m+1) i b=pl (wkT bs m i a) c.2.2:=by rw [← t1];exact h3
   rcases ih i a hi ha with ⟨e,_⟩ | ⟨g1,g2,g3,g4⟩
   ·rw [e,pl_far] at h3'
    refine .inl ⟨h3',fun w hw=>?_⟩
    have:=(hupper w hw).2
    omega
   ·rw [pl_fin (by omega) (by omega)] at h3'
    have hm':((a:Int),(b:Int),c.2.2)∈bs:=by rw [← e1,← e2];exact h1
    refine .inr ⟨?_,?_,?_,fun w hw=>(hupper w hw).1⟩
    ·rw [h3'];omega
    ·rw [h3'];omega
    ·rw [h3'];exact g3.snoc hm'
theorem wk_le {n:Nat} {bs:List (Int×Int×Int)} (hb:bs.all (bnd (n:Int))=true) {m i j:Nat} {w:Int} (hm:m≤1000) (hi:i<n) (h:WN bs i j m w):wkT bs m i j≤w∧wkT bs m i j<1000000000000000:=by
 rcases wk_ent hb m hm i j hi (h.stays hb hi) with ⟨_,e⟩ | ⟨_,_,_,e⟩
 ·exact absurd h (e _)
 ·exact ⟨e _ h,by omega⟩
theorem wk_walk {n:Nat} {bs:List (Int×Int×Int)} (hb:bs.all (bnd (n:Int))=true) {m i j:Nat} (hm:m≤1000) (hi:i<n) (hj:j<n) (h:wkT bs m i j≠1152921504606846976):WN bs i j m (wkT bs m i j):=by
 rcases wk_ent hb m hm i j hi hj with ⟨e,_⟩ | ⟨_,_,e,_⟩
 ·exact absurd e h
 ·exact e
theorem wk_sz {n:Nat} {bs:List (Int×Int×Int)} (hb:bs.all (bnd (n:Int))=true) {m i j:Nat} (hm:m≤1000) (hi:i<n) (hj:j<n):wkT bs m i j=1152921504606846976∨(-1000000000000≤wkT bs m i j∧wkT bs m i j≤1000000000000):=by
 rcases wk_ent hb m hm i j hi hj with ⟨e,_⟩ | ⟨e1,e2,_⟩
 ·exact .inl e
 ·exact .inr ⟨by omega,by omega⟩
end Go.Proofs.YthfgccfaildmfaaGreatDoor
namespace Go.Proofs.YthfgccfaildmfaaGreatDoor
open Go Go.Abs Go.PE
theorem m135_eq (i j:Int):m135 (i,j)=some 1152921504606846976:=rfl
theorem far_rows {n:Nat} (hn:n≤16) {i:Nat} (hi:i<n) :
  loopM (fun (s_1:Int×List (List Int)) =>
   bif ltM s_1.1 (n:Int) then
    Option.bind (chkM (i:Int) (lenM s_1.2)) fun (r_1:Unit) =>
     Option.bind (chkM (i:Int) (lenM s_1.2)) fun (r_2:Unit) =>
      Option.bind (m135 ((i:Int),s_1.1)) fun (r_3:Int) =>
       Option.bind (app2M (nat_lit 8) s_1.2 (i:Int) [r_3]) fun (r_4:List (List Int)) =>
        Option.bind (chkM (i:Int) (lenM r_4)) fun (r_5:Unit) =>
         Option.bind
          (Option.bind (sameM (i:Int) (i:Int)) fun (x:Unit) =>
           Option.bind (sameM (i:Int) (i:Int)) fun (x:Unit)=>chkM (i:Int) (lenM r_4))
          fun (r:Unit)=>some (Sum.inl (IntKind.wrap IntKind.i64 (s_1.1+(1:Int)),r_4))
   else some (Sum.inr s_1.2)) ((0:Int),rt n (fun a=>if a<i then n else 0) farT)=some (rt n (fun a=>if a<i+1 then n else 0) farT):=by
 have e0:rt n (fun a=>if a<i then n else 0) farT=rt n (fun a=>if a<i then n else if a=i then 0 else 0) farT:=rt_congr (fun a _=>by simp) fun _ _ _ _=>rfl
 rw [e0]
 refine count_loop (fun j=>rt n (fun a=>if a<i then n else if a=i then j else 0) farT) n (fun j hj=>?_) ?_
 ·have hl:∀ (len:Nat→Nat),chkM (i:Int) (lenM (rt n len farT))=some ():=fun len=>chkM_of (by omega) (by show (i:Int)<((rt n len farT).length:Int);rw [rt_length];omega)
  simp only [lt_true (a:=(j:Int)) (b:=(n:Int)) (by omega),cond_true,hl,Option.bind_some,m135_eq,sameM_self]
  have hj':(if i<i then n else if i=i then j else 0)=j:=by simp
  have hap:=rt_app (n:=n) (len:=fun a=>if a<i then n else if a=i then j else 0) (d:=farT) (i:=i) (b:=8) hi (by simp;omega)
  rw [hj'] at hap
  have hap':app2M (nat_lit 8) (rt n (fun a=>if a<i then n else if a=i then j else 0) farT) (i:Int) [1152921504606846976]=_:=hap
  rw [hap',Option.bind_some,hl,Option.bind_some,Option.bind_some,wrap_in (by omega) (by omega)]
  congr 3
  refine rt_congr (fun a _=>?_) fun _ _ _ _=>rfl
  unfold upl
  by_cases e:a=i<;>simp [e]
 ·simp only [lt_false (a:=(n:Int)) (b:=(n:Int)) (by omega),cond_false]
  congr 2
  refine rt_congr (fun a _=>?_) fun _ _ _ _=>rfl
  by_cases e:a<i
  ·rw [if_pos e,if_pos (by omega)]
  ·by_cases e':a=i
   ·rw [if_neg e,if_pos e',if_pos (by omega)]
   ·rw [if_neg e,if_neg e',if_neg (by omega)]
theorem far_loop {n:Nat} (hn:n≤16):loopM
    (fun (s:Int×List (List Int)) =>
     bif ltM s.1 (n:Int) then
      Option.bind
       (loopM
        (fun (s_1:Int×List (List Int)) =>
         bif ltM s_1.1 (n:Int) then
          Option.bind (chkM s.1 (lenM s_1.2)) fun (r_1:Unit) =>
           Option.bind (chkM s.1 (lenM s_1.2)) fun (r_2:Unit) =>
            Option.bind (m135 (s.1,s_1.1)) fun (r_3:Int) =>
             Option.bind (app2M (nat_lit 8) s_1.2 s.1 [r_3]) fun (r_4:List (List Int)) =>
              Option.bind (chkM s.1 (lenM r_4)) fun (r_5:Unit) =>
               Option.bind
                (Option.bind (sameM s.1 s.1) fun (x:Unit) =>
                 Option.bind (sameM s.1 s.1) fun (x:Unit)=>chkM s.1 (lenM r_4))
                fun (r:Unit)=>some (Sum.inl (IntKind.wrap IntKind.i64 (s_1.1+(1:Int)),r_4))
         else some (Sum.inr s_1.2))
        ((0:Int),s.2))
       fun (o:List (List Int))=>some (Sum.inl (IntKind.wrap IntKind.i64 (s.1+(1:Int)),o))
     else some (Sum.inr s.2))
    ((0:Int),List.replicate ((n:Int)).toNat ([]:List Int))=some (rt n (fun _=>n) farT):=by
 have e0:List.replicate ((n:Int)).toNat ([]:List Int)=rt n (fun a=>if a<0 then n else 0) farT:=by
  have ht:((n:Int)).toNat=n:=by omega
  rw [ht,replicate_row]
  exact row_congr fun i _=>rfl
 rw [e0]
 refine count_loop (fun i=>rt n (fun a=>if a<i then n else 0) farT) n (r:=rt n (fun _=>n) farT) (fun i hi=>?_) ?_
 ·simp only [lt_true (a:=(i:Int)) (b:=(n:Int)) (by omega),cond_true]
  rw [far_rows hn hi,Option.bind_some,wrap_in (by omega) (by omega)]
 ·simp only [lt_false (a:=(n:Int)) (b:=(n:Int)) (by omega),cond_false]
  congr 2
  exact rt_congr (fun a ha=>if_pos ha) fun _ _ _ _=>rfl
theorem bound_rows {n:Nat} (hn:n≤16) {c:Int×Int×Int} (hc:bnd (n:Int) c=true) (d t:Tab):loopM
                          (fun (s_2:Int×List (List Int)) =>
                           bif ltM s_2.1 (n:Int) then
                            Option.bind (chkM s_2.1 (lenM s_2.2)) fun (r_11:Unit) =>
                             Option.bind (chkM s_2.1 (lenM s_2.2)) fun (r_12:Unit) =>
                              Option.bind (chkM s_2.1 (lenM s_2.2)) fun (r_13:Unit) =>
                               Option.bind (chkM s_2.1 (lenM s_2.2)) fun (r_14:Unit) =>
                                Option.bind
                                 (Option.bind (idxM s_2.2 s_2.1) fun (xs:List Int) =>
                                  chkM c.2.1 (lenM xs))
                                 fun (r_15:Unit) =>
                                 Option.bind
                                  (Option.bind (idxM s_2.2 s_2.1) fun (xs:List Int) =>
                                   Option.bind (idxM xs c.2.1) fun (x:Int) =>
                                    some x)
                                  fun (r_16:Int) =>
                                  Option.bind (idxM (rt n (fun _=>n) d) s_2.1) fun (r_17:List Int) =>
                                   Option.bind (idxM r_17 c.1) fun (r_18:Int) =>
                                    Option.bind (m88 (r_18,c.2.2))
                                     fun (r_19:Int) =>
                                     Option.bind
                                      (Option.bind (idxM s_2.2 s_2.1)
                                       fun (xs:List Int) =>
                                       chkM c.2.1 (lenM xs))
                                      fun (r_20:Unit) =>
                                      Option.bind
                                       (set2M s_2.2 s_2.1 c.2.1 fun (x:Int) =>
                                        some (min r_16 r_19))
                                       fun (r:List (List Int)) =>
                                       some
                                        (Sum.inl
                                         (IntKind.wrap IntKind.i64
                                           (s_2.1+(1:Int)),
                                          r))
                           else some (Sum.inr s_2.2))
                          ((0:Int),rt n (fun _=>n) t)=some (rt n (fun _=>n) (addW d t c)):=by
 obtain ⟨a,b,ha,hb,e1,e2,e3,e4⟩:=bnd_of hc
 have e0:rt n (fun _=>n) t=rt n (fun _=>n) (fun i j=>if i<0 then addW d t c i j else t i j):=rt_congr (fun _ _=>rfl) fun i j _ _=>by rw [if_neg (by omega)]
 rw [e0]
 refine count_loop (fun k=>rt n (fun _=>n) (fun i j=>if i<k then addW d t c i j else t i j)) n (fun k hk=>?_) ?_
 ·simp only [lt_true (a:=(k:Int)) (b:=(n:Int)) (by omega),cond_true,Option.bind_some,e1,e2,chk_rt hk,rt_idx hk,chk_row hb,row_idx hb,row_idx ha,m88_pl]
  refine bind_of (rt_set (y:=addW d t c k b) hk hb ?_) ?_
  ·rw [if_neg (by omega)]
   unfold addW
   have t1:c.1.toNat=a:=by omega
   have t2:c.2.1.toNat=b:=by omega
   rw [t1,t2,if_pos rfl]
  ·rw [wrap_in (by omega) (by omega)]
   congr 3
   refine rt_congr (fun _ _=>rfl) fun i j hi hj=>?_
   unfold upd
   dsimp only
   by_cases e:i=k
   ·subst e
    rw [if_pos (show i<i+1 by omega)]
    by_cases e':j=b
    ·subst e';rw [if_pos ⟨rfl,rfl⟩]
    ·rw [if_neg fun h=>e' h.2,if_neg (by omega)]
     unfold addW
     rw [if_neg (by omega)]
   ·rw [if_neg fun h=>e h.1]
    by_cases e':i<k
    ·rw [if_pos e',if_pos (by omega)]
    ·rw [if_neg e',if_neg (by omega)]
 ·simp only [lt_false (a:=(n:Int)) (b:=(n:Int)) (by omega),cond_false]
  congr 2
  exact rt_congr (fun _ _=>rfl) fun i j hi _=>if_pos hi
theorem next_loop {n:Nat} (hn:n≤16) {bs:List (Int×Int×Int)} (hl:bs.length≤60) (hb:bs.all (bnd (n:Int))=true) (d:Tab):loopM
                     (fun (s_1:Int×List (List Int)) =>
                      bif ltM s_1.1 (lenM bs) then
                       Option.bind (idxM bs s_1.1) fun (r_10:Int×Int×Int) =>
                        Option.bind
                         (loopM
                          (fun (s_2:Int×List (List Int)) =>
                           bif ltM s_2.1 (n:Int) then
                            Option.bind (chkM s_2.1 (lenM s_2.2)) fun (r_11:Unit) =>
                             Option.bind (chkM s_2.1 (lenM s_2.2)) fun (r_12:Unit) =>
                              Option.bind (chkM s_2.1 (lenM s_2.2)) fun (r_13:Unit) =>
                               Option.bind (chkM s_2.1 (lenM s_2.2)) fun (r_14:Unit) =>
                                Option.bind
                                 (Option.bind (idxM s_2.2 s_2.1) fun (xs:List Int) =>
                                  chkM r_10.2.1 (lenM xs))
                                 fun (r_15:Unit) =>
                                 Option.bind
                                  (Option.bind (idxM s_2.2 s_2.1) fun (xs:List Int) =>
                                   Option.bind (idxM xs r_10.2.1) fun (x:Int) =>
                                    some x)
                                  fun (r_16:Int) =>
                                  Option.bind (idxM (rt n (fun _=>n) d) s_2.1) fun (r_17:List Int) =>
                                   Option.bind (idxM r_17 r_10.1) fun (r_18:Int) =>
                                    Option.bind (m88 (r_18,r_10.2.2))
                                     fun (r_19:Int) =>
                                     Option.bind
                                      (Option.bind (idxM s_2.2 s_2.1)
                                       fun (xs:List Int) =>
                                       chkM r_10.2.1 (lenM xs))
                                      fun (r_20:Unit) =>
                                      Option.bind
                                       (set2M s_2.2 s_2.1 r_10.2.1 fun (x:Int) =>
                                        some (min r_16 r_19))
                                       fun (r:List (List Int)) =>
                                       some
                                        (Sum.inl
                                         (IntKind.wrap IntKind.i64
                                           (s_2.1+(1:Int)),
                                          r))
                           else some (Sum.inr s_2.2))
                          ((0:Int),s_1.2))
                         fun (o:List (List Int)) =>
                         some (Sum.inl (IntKind.wrap IntKind.i64 (s_1.1+(1:Int)),o))
                      else some (Sum.inr s_1.2))
                     ((0:Int),rt n (fun _=>n) farT)=some (rt n (fun _=>n) (nxt bs d)):=by
 refine count_loop (fun k=>rt n (fun _=>n) ((bs.take k).foldl (addW d) farT)) bs.length (fun k hk=>?_) ?_
 ·simp only [lt_true (a:=(k:Int)) (b:=lenM bs) (by show (k:Int)<(bs.length:Int);omega),cond_true,idxM_lt hk,Option.bind_some]
  refine bind_of (bound_rows hn (List.all_eq_true.1 hb _ (List.getElem_mem hk)) d _) ?_
  rw [wrap_in (by omega) (by omega),foldl_take (addW d) farT bs k hk]
 ·simp only [lt_false (a:=(bs.length:Int)) (b:=lenM bs) (by show ¬ (bs.length:Int)<(bs.length:Int);omega),cond_false,List.take_length]
  rfl
end Go.Proofs.YthfgccfaildmfaaGreatDoor
namespace Go.Proofs.YthfgccfaildmfaaGreatDoor
open Go Go.Abs Go.PE
def stp (bs:List (Int×Int×Int)) (to m f:Nat) (q:Int) (c:Int×Int×Int):Bool:=decide (c.1=(f:Int))&&decide (pl c.2.2 (wkT bs m c.2.1.toNat to)≤q)
def chP (bs:List (Int×Int×Int)) (to:Nat):Nat→Nat→Int→List Int
 | 0,_,_=>[]
 | m+1,f,q=>match bs.findIdx? (stp bs to m f q) with
  | some k=>(k:Int)::chP bs to m (bs.getD k (0,0,0)).2.1.toNat (q-(bs.getD k (0,0,0)).2.2)
  | none=>[]
theorem pl_sz {a b:Int} (ha:-1000000000000000≤a∧a≤1000000000000000) (hb:-1000000000000000≤b∧b≤1000000000000000):pl a b=a+b:=by
 unfold pl
 rw [if_neg (by omega),wrap_in (by omega) (by omega)]
theorem far_pl (a:Int):pl a 1152921504606846976=1152921504606846976:=by
 unfold pl
 rw [if_pos (.inr rfl)]
theorem getD_of {α:Type} {xs:List α} {k:Nat} {z:α} (h:k<xs.length):xs.getD k z=xs[k]:=by
 rw [List.getD_eq_getElem?_getD,List.getElem?_eq_getElem h]
 rfl
theorem first_loop {α:Type} {xs:List α} (p:α→Bool) {body:Int→Option (Int⊕(Unit⊕Int))}
  (hb:∀ k (hk:k<xs.length),body (k:Int)=some (bif p xs[k] then .inr (.inr (k:Int)) else .inl ((k:Int)+1))) (he:body (xs.length:Int)=some (.inr (.inl ())))
  (hx:∃ c,c∈xs∧p c=true):∃ k,∃ hk:k<xs.length,xs.findIdx? p=some k∧p xs[k]=true∧loopM body 0=some (.inr (k:Int)):=by
 obtain ⟨o,h1,h2⟩:=find_loop p hb he
 rcases h2 with ⟨rfl,h2⟩ | ⟨k,hk,rfl,h2,h3⟩
 ·obtain ⟨c,hc,hp⟩:=hx
  obtain ⟨i,hi,rfl⟩:=List.mem_iff_getElem.1 hc
  rw [h2 i hi] at hp
  cases hp
 ·exact ⟨k,hk,List.findIdx?_eq_some_iff_getElem.2 ⟨hk,h2,fun j hj=>by rw [h3 j hj];decide⟩,h2,h1⟩
section
variable {n:Nat} {bs:List (Int×Int×Int)} (hb:bs.all (bnd (n:Int))=true)
include hb
theorem stp_ex {to m f:Nat} {q:Int} (hm:m+1≤1000) (hf:f<n) (ht:to<n) (hq:q≤100000000000000000) (h:wkT bs (m+1) f to≤q):∃ c,c∈bs∧stp bs to m f q c=true:=by
 have hw:=wk_walk hb hm hf ht (by omega)
 generalize wkT bs (m+1) f to=w at hw h
 cases hw with
 | @cons i a j m' c w' hmem h2 =>
  have hc:=of_decide_eq_true (List.all_eq_true.1 hb _ hmem)
  simp only at hc
  have ha:a<n:=by omega
  have h3:=wk_le hb (by omega) ha h2
  refine ⟨_,hmem,?_⟩
  unfold stp
  have t1:((a:Int)).toNat=a:=by omega
  rw [decide_eq_true rfl,Bool.true_and]
  simp only [t1]
  rcases wk_sz hb (m:=m) (by omega) ha ht with e | e
  ·omega
  ·rw [pl_sz (by omega) (by omega)]
   exact decide_eq_true (by omega)
theorem stp_rest {to m f:Nat} {q:Int} {c:Int×Int×Int} (hm:m≤1000) (ht:to<n) (hq:q≤100000000000000000) (hc:c∈bs) (h:stp bs to m f q c=true):c.1=(f:Int)∧c.2.1.toNat<n∧wkT bs m c.2.1.toNat to≤q-c.2.2:=by
 unfold stp at h
 rw [Bool.and_eq_true] at h
 have h1:=of_decide_eq_true h.1
 have h2:=of_decide_eq_true h.2
 have hc:=of_decide_eq_true (List.all_eq_true.1 hb _ hc)
 have ha:c.2.1.toNat<n:=by omega
 refine ⟨h1,ha,?_⟩
 rcases wk_sz hb (m:=m) hm ha ht with e | e
 ·rw [e,far_pl] at h2;omega
 ·rw [pl_sz (by omega) (by omega)] at h2
  omega
end
theorem chain_loop {n:Nat} {bs:List (Int×Int×Int)} (hl:bs.length≤60) (hb:bs.all (bnd (n:Int))=true) {M to:Nat} (ht:to<n) {body:Int×Int×Int×List Int→Option ((Int×Int×Int×List Int)⊕(Int×Int×Int×List Int))}
  (hbody:body=fun (s:Int×Int×Int×List Int)=>bif ltM (0:Int) s.2.1 then
      Option.bind
       (Option.bind
        (loopM
         (fun (s_1:Int) =>
          bif ltM s_1 (lenM bs) then
           Option.bind (idxM bs s_1) fun (r:Int×Int×Int) =>
            Option.bind
             (bif eqM r.1 s.1 then idxM (row M fun m=>rt n (fun _=>n) (wkT bs m)) (IntKind.wrap IntKind.i64 (s.2.1-(1:Int))) else some [])
             fun (r_1:List (List Int)) =>
             Option.bind (bif eqM r.1 s.1 then idxM r_1 r.2.1 else some []) fun (r_2:List Int) =>
              Option.bind (bif eqM r.1 s.1 then idxM r_2 (to:Int) else some (0:Int)) fun (r_3:Int) =>
               Option.bind (bif eqM r.1 s.1 then m88 (r.2.2,r_3) else some (0:Int)) fun (r_4:Int) =>
                bif PE.andM (eqM r.1 s.1) (leM r_4 s.2.2.1) then some (Sum.inr (Sum.inr s_1))
                else some (Sum.inl (IntKind.wrap IntKind.i64 (s_1+(1:Int))))
          else some (Sum.inr (Sum.inl ())))
         (0:Int))
        fun (o:Unit⊕Int)=>Sum.elim (fun (t:Unit)=>some (-1:Int)) (fun (t:Int)=>some t) o)
       fun (ov:Int) =>
       Option.bind (idxM bs ov) fun (r:Int×Int×Int) =>
        Option.bind (idxM bs ov) fun (r_1:Int×Int×Int) =>
         Option.bind (appM (nat_lit 8) s.2.2.2 [ov]) fun (r_2:List Int) =>
          some
           (Sum.inl
            (r.2.1,IntKind.wrap IntKind.i64 (s.2.1-(1:Int)),
             IntKind.wrap IntKind.i64 (s.2.2.1-r_1.2.2),r_2))
     else some (Sum.inr (s.1,s.2.1,s.2.2.1,s.2.2.2))) :
  ∀ (m f:Nat) (q:Int) (out:List Int),m≤M→m≤100→f<n→-10000000000000+m*1000000000≤q→q≤10000000000000-m*1000000000→out.length+m≤1000→wkT bs m f to≤q →
   ∃ f' q',loopM body ((f:Int),(m:Int),q,out)=some (f',0,q',out++chP bs to m f q):=by
 intro m
 induction m with
 | zero =>
  intro f q out _ _ _ _ _ _ _
  refine ⟨f,q,?_⟩
  have hstep:body ((f:Int),((0:Nat):Int),q,out)=some (.inr ((f:Int),((0:Nat):Int),q,out)):=by
   rw [hbody]
   dsimp only
   rw [geI (by omega),cond_false]
  rw [loopM_eq,hstep]
  show some ((f:Int),((0:Nat):Int),q,out)=some ((f:Int),0,q,out++[])
  rw [List.append_nil]
  rfl
 | succ m ih =>
  intro f q out hM hm hf hq1 hq2 ho h
  obtain ⟨k,hk,e1,e2,e3⟩:=first_loop (xs:=bs) (stp bs to m f q) (body:=fun (s_1:Int) =>
          bif ltM s_1 (lenM bs) then
           Option.bind (idxM bs s_1) fun (r:Int×Int×Int) =>
            Option.bind
             (bif eqM r.1 (f:Int) then idxM (row M fun m=>rt n (fun _=>n) (wkT bs m)) (IntKind.wrap IntKind.i64 (((m+1:Nat):Int)-(1:Int))) else some [])
             fun (r_1:List (List Int)) =>
             Option.bind (bif eqM r.1 (f:Int) then idxM r_1 r.2.1 else some []) fun (r_2:List Int) =>
              Option.bind (bif eqM r.1 (f:Int) then idxM r_2 (to:Int) else some (0:Int)) fun (r_3:Int) =>
               Option.bind (bif eqM r.1 (f:Int) then m88 (r.2.2,r_3) else some (0:Int)) fun (r_4:Int) =>
                bif PE.andM (eqM r.1 (f:Int)) (leM r_4 q) then some (Sum.inr (Sum.inr s_1))
                else some (Sum.inl (IntKind.wrap IntKind.i64 (s_1+(1:Int))))
          else some (Sum.inr (Sum.inl ()))) (fun k hk=>by
   obtain ⟨a,b,ha,hb',g1,g2,_,_⟩:=bnd_of (List.all_eq_true.1 hb _ (List.getElem_mem hk))
   rw [ltI (by show (k:Int)<(bs.length:Int);omega),cond_true,idxM_lt hk,Option.bind_some,wrap_in (n:=(k:Int)+1) (by omega) (by omega)]
   unfold stp
   by_cases e:bs[k].1=(f:Int)
   ·have t1:((m+1:Nat):Int)-1=(m:Int):=by omega
    have t2:bs[k].2.1.toNat=b:=by omega
    rw [eqI e,cond_true,t1,wrap_in (by omega) (by omega),row_idx (by omega),Option.bind_some,cond_true,g2,rt_idx hb',Option.bind_some,cond_true,row_idx ht,Option.bind_some,cond_true,m88_pl,Option.bind_some,andT,decide_eq_true e,Bool.true_and]
    have t3:((b:Int)).toNat=b:=by omega
    rw [t3]
    by_cases e':pl bs[k].2.2 (wkT bs m b to)≤q
    ·rw [leI e',decide_eq_true e'];rfl
    ·rw [gtI (by omega),decide_eq_false e'];rfl
   ·rw [neI e,cond_false,Option.bind_some,cond_false,Option.bind_some,cond_false,Option.bind_some,cond_false,Option.bind_some,andF,decide_eq_false e]
    rfl) (by rw [geI (Int.le_refl _)];rfl) (stp_ex hb (by omega) hf ht (by omega) h)
  obtain ⟨h1,h2,h3⟩:=stp_rest hb (by omega) ht (by omega) (List.getElem_mem hk) e2
  have hc:=of_decide_eq_true (List.all_eq_true.1 hb _ (List.getElem_mem hk))
  obtain ⟨f',q',ih⟩:=ih bs[k].2.1.toNat (q-bs[k].2.2) (out++[(k:Int)]) (by omega) (by omega) h2 (by omega) (by omega) (by rw [List.length_append];show out.length+1+m≤1000;omega) h3
  refine ⟨f',q',?_⟩
  rw [loopM_eq]
  have hstep:body ((f:Int),((m+1:Nat):Int),q,out)=some (.inl ((bs[k].2.1.toNat:Int),(m:Int),q-bs[k].2.2,out++[(k:Int)])):=by
   rw [hbody]
   dsimp only
   rw [ltI (by omega),cond_true]
   have t4:((bs[k].2.1.toNat:Nat):Int)=bs[k].2.1:=by omega
   refine bind_of (bind_of e3 rfl) ?_
   rw [idxM_lt hk,Option.bind_some,Option.bind_some,appM_of (by show (out.length+1)*8≤140737488355328;omega),Option.bind_some,wrap_in (by omega) (by omega),wrap_in (by omega) (by omega),t4]
   congr 4
   omega
  rw [hstep]
  show loopM body _=_
  rw [ih]
  have e4:chP bs to (m+1) f q=(k:Int)::chP bs to m bs[k].2.1.toNat (q-bs[k].2.2):=by
   show (match bs.findIdx? (stp bs to m f q) with | some k=>_ | none=>_)=_
   rw [e1]
   show (k:Int)::chP bs to m (bs.getD k (0,0,0)).2.1.toNat (q-(bs.getD k (0,0,0)).2.2)=_
   rw [getD_of hk]
  rw [e4,List.append_assoc]
  rfl
theorem m89_eq {n:Nat} {bs:List (Int×Int×Int)} (hl:bs.length≤60) (hb:bs.all (bnd (n:Int))=true) {M to m f:Nat} {q:Int} (ht:to<n) (hM:m≤M) (hm:m≤100) (hf:f<n) (hq1:-1000000000000≤q) (hq2:q≤1000000000000) (h:wkT bs m f to≤q) :
  m89 (((n:Int),bs),row M (fun m=>rt n (fun _=>n) (wkT bs m)),(f:Int),(to:Int),(m:Int),q)=some (chP bs to m f q):=by
 obtain ⟨f',q',e⟩:=chain_loop hl hb (M:=M) ht rfl m f q [] hM hm hf (by omega) (by omega) (by show 0+m≤1000;omega) h
 unfold m89
 exact bind_of e rfl
end Go.Proofs.YthfgccfaildmfaaGreatDoor
namespace Go.Proofs.YthfgccfaildmfaaGreatDoor
open Go Go.Abs Go.PE
def folP (bs:List (Int×Int×Int)):List Int→Int→Int→Option (Int×Int)
 | [],f,s=>some (f,s)
 | k::l,f,s=>if 0≤k∧k<bs.length∧(bs.getD k.toNat (0,0,0)).1=f then folP bs l (bs.getD k.toNat (0,0,0)).2.1 (IntKind.wrap IntKind.i64 (s+(bs.getD k.toNat (0,0,0)).2.2)) else none
def folR (bs:List (Int×Int×Int)) (l:List Int) (f:Int):Int×Int×Bool:=match folP bs l f 0 with
 | some (e,s)=>(e,s,decide ((l.length:Int)≤60))
 | none=>(0,0,false)
theorem m98_eq (a b c:Int):m98 (a,b,c)=some (decide (b≤a)&&decide (a≤c)):=rfl
theorem m105_eq {n:Int} {bs:List (Int×Int×Int)} {l:List Int} (hbl:bs.length≤1000000000) (hl:l.length≤4611686018427387904) (f:Int):m105 ((n,bs),f,l)=some (folR bs l f):=by
 have key:∀ (body:Int×Int×Int→Option ((Int×Int×Int)⊕(Int×Int⊕Int×Int×Bool))),(body=fun (s:Int×Int×Int) =>
     bif ltM s.2.2 (lenM l) then
      Option.bind (idxM l s.2.2) fun (r:Int) =>
       Option.bind (m98 (r,(0:Int),IntKind.wrap IntKind.i64 (lenM bs-(1:Int)))) fun (r_1:Bool) =>
        Option.bind (bif PE.notM (PE.notM r_1) then idxM bs r else some ((0:Int),(0:Int),(0:Int)))
         fun (r_2:Int×Int×Int) =>
         bif PE.orM (PE.notM r_1) (PE.notM (eqM r_2.1 s.1)) then
          some (Sum.inr (Sum.inr ((0:Int),(0:Int),false)))
         else
          Option.bind (idxM bs r) fun (r_3:Int×Int×Int) =>
           Option.bind (idxM bs r) fun (r:Int×Int×Int) =>
            some
             (Sum.inl
              (r_3.2.1,IntKind.wrap IntKind.i64 (s.2.1+r.2.2),
               IntKind.wrap IntKind.i64 (s.2.2+(1:Int))))
     else some (Sum.inr (Sum.inl (s.1,s.2.1))))→∀ (d k:Nat) (f s:Int),k+d=l.length→loopM body (f,s,(k:Int))=some (match folP bs (l.drop k) f s with | some r=>.inl r | none=>.inr (0,0,false)):=by
  intro body hbody d
  induction d with
  | zero =>
   intro k f s hk
   have hstep:body (f,s,(k:Int))=some (.inr (.inl (f,s))):=by
    rw [hbody]
    dsimp only
    rw [geI (by show (l.length:Int)≤(k:Int);omega),cond_false]
   rw [loopM_eq,hstep,List.drop_eq_nil_of_le (by omega)]
   rfl
  | succ d ih =>
   intro k f s hk
   have hkl:k<l.length:=by omega
   have hd:l.drop k=l[k]::l.drop (k+1):=List.drop_eq_getElem_cons hkl
   rw [hd]
   unfold folP
   rw [loopM_eq]
   by_cases h1:0≤l[k]∧l[k]<bs.length
   ·have e1:(decide (0≤l[k])&&decide (l[k]≤IntKind.wrap IntKind.i64 (lenM bs-1)))=true:=by
     have:IntKind.wrap IntKind.i64 (lenM bs-1)=(bs.length:Int)-1:=wrap_in (by show _≤(bs.length:Int)-1;omega) (by show (bs.length:Int)-1≤_;omega)
     rw [this,decide_eq_true h1.1,decide_eq_true (by omega)]
     rfl
    have e2:idxM bs l[k]=some (bs.getD l[k].toNat (0,0,0)):=by
     rw [idxM_of h1.1 h1.2,getD_of (by omega)]
    by_cases h2:(bs.getD l[k].toNat (0,0,0)).1=f
    ·have hstep:body (f,s,(k:Int))=some (.inl ((bs.getD l[k].toNat (0,0,0)).2.1,IntKind.wrap IntKind.i64 (s+(bs.getD l[k].toNat (0,0,0)).2.2),((k+1:Nat):Int))):=by
      rw [hbody]
      dsimp only
      rw [ltI (by show (k:Int)<(l.length:Int);omega),cond_true,idxM_lt hkl,Option.bind_some,m98_eq,e1,Option.bind_some,notT,notF,cond_true,e2,Option.bind_some,orF,eqI h2,notT,cond_false,Option.bind_some,Option.bind_some,wrap_in (n:=(k:Int)+1) (by omega) (by omega)]
      rfl
     rw [hstep,if_pos ⟨h1.1,h1.2,h2⟩]
     exact ih (k+1) _ _ (by omega)
    ·have hstep:body (f,s,(k:Int))=some (.inr (.inr (0,0,false))):=by
      rw [hbody]
      dsimp only
      rw [ltI (by show (k:Int)<(l.length:Int);omega),cond_true,idxM_lt hkl,Option.bind_some,m98_eq,e1,Option.bind_some,notT,notF,cond_true,e2,Option.bind_some,orF,neI h2,notF,cond_true]
     rw [hstep,if_neg fun h=>h2 h.2.2]
     rfl
   ·have e1:(decide (0≤l[k])&&decide (l[k]≤IntKind.wrap IntKind.i64 (lenM bs-1)))=false:=by
     have:IntKind.wrap IntKind.i64 (lenM bs-1)=(bs.length:Int)-1:=wrap_in (by show _≤(bs.length:Int)-1;omega) (by show (bs.length:Int)-1≤_;omega)
     rw [this]
     by_cases h0:0≤l[k]
     ·rw [decide_eq_true h0,decide_eq_false (by omega)];rfl
     ·rw [decide_eq_false h0];rfl
    have hstep:body (f,s,(k:Int))=some (.inr (.inr (0,0,false))):=by
     rw [hbody]
     dsimp only
     rw [ltI (by show (k:Int)<(l.length:Int);omega),cond_true,idxM_lt hkl,Option.bind_some,m98_eq,e1,Option.bind_some,notF,notT,cond_false,Option.bind_some,orT,cond_true]
    rw [hstep,if_neg fun h=>h1 ⟨h.1,h.2.1⟩]
    rfl
 unfold m105
 have h0:=key _ rfl l.length 0 f 0 (by omega)
 rw [List.drop_zero] at h0
 refine bind_of h0 ?_
 unfold folR
 dsimp only
 cases folP bs l f 0 with
 | some r=>rfl
 | none=>rfl
theorem chP_fol {n:Nat} {bs:List (Int×Int×Int)} (hb:bs.all (bnd (n:Int))=true) {to:Nat} (ht:to<n):∀ (m f:Nat) (q s:Int),m≤100→f<n→-10000000000000+m*1000000000≤q→q≤10000000000000-m*1000000000→-10000000000000+m*1000000000≤s→s≤10000000000000-m*1000000000→wkT bs m f to≤q →
  (chP bs to m f q).length=m∧∃ s',folP bs (chP bs to m f q) f s=some ((to:Int),s')∧s'-s≤q:=by
 intro m
 induction m with
 | zero =>
  intro f q s _ hf _ _ _ _ h
  refine ⟨rfl,s,?_,?_⟩
  ·have h':d0 f to≤q:=h
   unfold d0 at h'
   by_cases e:f=to
   ·subst e;rfl
   ·rw [if_neg e] at h';omega
  ·have h':d0 f to≤q:=h
   unfold d0 at h'
   split at h'<;>omega
 | succ m ih =>
  intro f q s hm hf hq1 hq2 hs1 hs2 h
  obtain ⟨c,hc,hp⟩:=stp_ex hb (by omega) hf ht (by omega) h
  cases hi:bs.findIdx? (stp bs to m f q) with
  | none =>
   rw [List.findIdx?_eq_none_iff] at hi
   rw [hi c hc] at hp
   cases hp
  | some k =>
   obtain ⟨hk,hp2,_⟩:=List.findIdx?_eq_some_iff_getElem.1 hi
   obtain ⟨h1,h2,h3⟩:=stp_rest hb (by omega) ht (by omega) (List.getElem_mem hk) hp2
   have hcb:=of_decide_eq_true (List.all_eq_true.1 hb _ (List.getElem_mem hk))
   have e4:chP bs to (m+1) f q=(k:Int)::chP bs to m bs[k].2.1.toNat (q-bs[k].2.2):=by
    show (match bs.findIdx? (stp bs to m f q) with | some k=>_ | none=>_)=_
    rw [hi]
    show (k:Int)::chP bs to m (bs.getD k (0,0,0)).2.1.toNat (q-(bs.getD k (0,0,0)).2.2)=_
    rw [getD_of hk]
   obtain ⟨g1,s',g2,g3⟩:=ih bs[k].2.1.toNat (q-bs[k].2.2) (s+bs[k].2.2) (by omega) h2 (by omega) (by omega) (by omega) (by omega) h3
   rw [e4]
   refine ⟨by rw [List.length_cons,g1],s',?_,by omega⟩
   unfold folP
   have t1:((k:Int)).toNat=k:=by omega
   rw [t1,getD_of hk,if_pos ⟨by omega,by omega,h1⟩,wrap_in (by omega) (by omega)]
   have t2:((bs[k].2.1.toNat:Nat):Int)=bs[k].2.1:=by omega
   rw [t2] at g2
   exact g2
def chkChain (x:Sys) (v:Int×Int×Int) (l:List Int):Bool:=sys x&&bnd x.1 v&&((folR x.2 l v.1).2.2&&decide ((folR x.2 l v.1).1=v.2.1)&&decide ((folR x.2 l v.1).2.1≤v.2.2))
theorem m102_sys {x:Sys} (h:sys x=true) (v:Int×Int×Int):m102 (x.1,v.1,v.2.1,v.2.2)=some (bnd x.1 v):=m102_eq v (sys_bnd h).1.1 (sys_bnd h).1.2.1
theorem m66_eq (x:Sys) (v:Int×Int×Int) {l:List Int} (hl:l.length≤4611686018427387904):m66 (x,v,l)=some (chkChain x v l):=by
 unfold m66 chkChain
 dsimp only
 rw [show (x.1,x.2)=x from rfl,m64_eq,Option.bind_some]
 cases h:sys x with
 | false=>rfl
 | true =>
  rw [notT,notF,cond_true,m102_sys h,Option.bind_some,orF]
  cases h2:bnd x.1 v with
  | false=>rfl
  | true =>
   rw [notT,cond_false]
   exact bind_of (m105_eq (n:=x.1) (bs:=x.2) (by have:=(sys_bnd h).1;omega) hl v.1) rfl
def chkCycle (x:Sys) (l:List Int):Bool:=match l with
 | []=>false
 | k::_=>sys x&&(decide (0≤k)&&decide (k<x.2.length))&&((folR x.2 l (x.2.getD k.toNat (0,0,0)).1).2.2&&decide ((folR x.2 l (x.2.getD k.toNat (0,0,0)).1).1=(x.2.getD k.toNat (0,0,0)).1)&&decide ((folR x.2 l (x.2.getD k.toNat (0,0,0)).1).2.1<0))
theorem folR_ok {bs:List (Int×Int×Int)} {l:List Int} {f:Int} (h:(folR bs l f).2.2=true):l.length≤60∧folP bs l f 0=some ((folR bs l f).1,(folR bs l f).2.1):=by
 unfold folR at h ⊢
 cases e:folP bs l f 0 with
 | none=>rw [e] at h;cases h
 | some r =>
  rw [e] at h
  have:=of_decide_eq_true h
  exact ⟨by omega,rfl⟩
end Go.Proofs.YthfgccfaildmfaaGreatDoor
namespace Go.Proofs.YthfgccfaildmfaaGreatDoor
open Go Go.Abs Go.PE
def fstM (bs:List (Int×Int×Int)) (f t:Nat) (q:Int):Nat:=((List.range 17).find? fun m=>decide (wkT bs m f t≤q)).getD 0
theorem fstM_of {bs:List (Int×Int×Int)} {f t m:Nat} {q:Int} (hm:m<17) (h:wkT bs m f t≤q):fstM bs f t q≤m∧wkT bs (fstM bs f t q) f t≤q∧∀ k,k<fstM bs f t q→¬ wkT bs k f t≤q:=by
 unfold fstM
 cases e:(List.range 17).find? fun m=>decide (wkT bs m f t≤q) with
 | none =>
  rw [List.find?_eq_none] at e
  have:=e m (List.mem_range.2 hm)
  rw [decide_eq_true h] at this
  exact absurd rfl this
 | some k =>
  rw [List.find?_eq_some_iff_getElem] at e
  obtain ⟨h1,i,hi,h2,h3⟩:=e
  rw [List.getElem_range] at h2
  subst h2
  rw [List.length_range] at hi
  have h3':∀ j,j<i→¬ wkT bs j f t≤q:=fun j hj hle=>by
   have:=h3 j hj
   rw [List.getElem_range,decide_eq_true hle] at this
   cases this
  refine ⟨?_,of_decide_eq_true h1,h3'⟩
  show i≤m
  refine Classical.byContradiction fun hn=>h3' m (by omega) h
theorem fw_short {x:Sys} (hs:sys x=true) (ho:ovS x=false) {f t:Nat} {q:Int} (hf:f<x.1.toNat) (ht:t<x.1.toNat) (hq:q≤100000000000000000) (h:fwS x f t≤q):∃ m,m<x.1.toNat∧wkT x.2 m f t≤q:=by
 obtain ⟨hn,hb,he⟩:=sys_all hs
 rcases fw_cases hs ho hf ht with ⟨e,_⟩ | ⟨_,_,e,_⟩
 ·omega
 ·obtain ⟨m0,hm0⟩:=e.wn
  obtain ⟨m,w',h1,h2,h3⟩:=hm0.short hb (no_neg hs ho) hf
  exact ⟨m,h1,by have:=(wk_le hb (by omega) hf h3).1;omega⟩
theorem wk_ge_fw {x:Sys} (hs:sys x=true) (ho:ovS x=false) {m f t:Nat} (hm:m≤1000) (hf:f<x.1.toNat) (ht:t<x.1.toNat):fwS x f t≤wkT x.2 m f t:=by
 obtain ⟨hn,hb,he⟩:=sys_all hs
 rcases wk_ent hb m hm f t hf ht with ⟨e,_⟩ | ⟨_,_,e,_⟩
 ·rcases fw_cases hs ho hf ht with ⟨e2,_⟩ | ⟨_,e2,_⟩<;>omega
 ·exact (fw_least hn hb ho hf e.wk).2.2
def impR (x:Sys) (v:Int×Int×Int):List Int×Bool :=
 bif sys x&&bnd x.1 v&&!ovS x&&decide (fwS x v.1.toNat v.2.1.toNat≤v.2.2) then (chP x.2 v.2.1.toNat (fstM x.2 v.1.toNat v.2.1.toNat v.2.2) v.1.toNat v.2.2,true) else ([],false)
theorem m63_walks {n:Nat} (hn:n≤16) {bs:List (Int×Int×Int)} (hl:bs.length≤60) (hb:bs.all (bnd (n:Int))=true) {f t:Nat} {q:Int} (hf:f<n) (ht:t<n) {m0:Nat} (hm0:m0≤16) (h1:wkT bs m0 f t≤q) (h2:∀ k,k<m0→¬ wkT bs k f t≤q)
  {body:List (List Int)×List (List (List Int))→Option ((List (List Int)×List (List (List Int)))⊕List (List (List Int)))}
  (hbody:∀ s,body s=Option.bind (appM (nat_lit 24) s.2 [s.1]) fun (r_6:List (List (List Int))) =>
              Option.bind (idxM s.1 (f:Int)) fun (r_7:List Int) =>
               Option.bind (idxM r_7 (t:Int)) fun (r_8:Int) =>
                bif leM r_8 q then some (Sum.inr r_6)
                else
                 Option.bind (mkM (n:Int) (n:Int) (nat_lit 24) []) fun (r_9:List (List Int)) =>
                  Option.bind
                   (loopM
                    (fun (s_1:Int×List (List Int)) =>
                     bif ltM s_1.1 (n:Int) then
                      Option.bind
                       (loopM
                        (fun (s_2:Int×List (List Int)) =>
                         bif ltM s_2.1 (n:Int) then
                          Option.bind (chkM s_1.1 (lenM s_2.2)) fun (r_10:Unit) =>
                           Option.bind (chkM s_1.1 (lenM s_2.2)) fun (r_11:Unit) =>
                            Option.bind (m135 (s_1.1,s_2.1)) fun (r_12:Int) =>
                             Option.bind (app2M (nat_lit 8) s_2.2 s_1.1 [r_12])
                              fun (r_13:List (List Int)) =>
                              Option.bind (chkM s_1.1 (lenM r_13)) fun (r_14:Unit) =>
                               Option.bind
                                (Option.bind (sameM s_1.1 s_1.1) fun (x:Unit) =>
                                 Option.bind (sameM s_1.1 s_1.1) fun (x:Unit) =>
                                  chkM s_1.1 (lenM r_13))
                                fun (r:Unit) =>
                                some
                                 (Sum.inl
                                  (IntKind.wrap IntKind.i64 (s_2.1+(1:Int)),r_13))
                         else some (Sum.inr s_2.2))
                        ((0:Int),s_1.2))
                       fun (o:List (List Int)) =>
                       some (Sum.inl (IntKind.wrap IntKind.i64 (s_1.1+(1:Int)),o))
                     else some (Sum.inr s_1.2))
                    ((0:Int),r_9))
                   fun (o:List (List Int)) =>
                   Option.bind
                    (loopM
                     (fun (s_1:Int×List (List Int)) =>
                      bif ltM s_1.1 (lenM bs) then
                       Option.bind (idxM bs s_1.1) fun (r_10:Int×Int×Int) =>
                        Option.bind
                         (loopM
                          (fun (s_2:Int×List (List Int)) =>
                           bif ltM s_2.1 (n:Int) then
                            Option.bind (chkM s_2.1 (lenM s_2.2)) fun (r_11:Unit) =>
                             Option.bind (chkM s_2.1 (lenM s_2.2)) fun (r_12:Unit) =>
                              Option.bind (chkM s_2.1 (lenM s_2.2)) fun (r_13:Unit) =>
                               Option.bind (chkM s_2.1 (lenM s_2.2)) fun (r_14:Unit) =>
                                Option.bind
                                 (Option.bind (idxM s_2.2 s_2.1) fun (xs:List Int) =>
                                  chkM r_10.2.1 (lenM xs))
                                 fun (r_15:Unit) =>
                                 Option.bind
                                  (Option.bind (idxM s_2.2 s_2.1) fun (xs:List Int) =>
                                   Option.bind (idxM xs r_10.2.1) fun (x:Int) =>
                                    some x)
                                  fun (r_16:Int) =>
                                  Option.bind (idxM s.1 s_2.1) fun (r_17:List Int) =>
                                   Option.bind (idxM r_17 r_10.1) fun (r_18:Int) =>
                                    Option.bind (m88 (r_18,r_10.2.2))
                                     fun (r_19:Int) =>
                                     Option.bind
                                      (Option.bind (idxM s_2.2 s_2.1)
                                       fun (xs:List Int) =>
                                       chkM r_10.2.1 (lenM xs))
                                      fun (r_20:Unit) =>
                                      Option.bind
                                       (set2M s_2.2 s_2.1 r_10.2.1 fun (x:Int) =>
                                        some (min r_16 r_19))
                                       fun (r:List (List Int)) =>
                                       some
                                        (Sum.inl
                                         (IntKind.wrap IntKind.i64
                                           (s_2.1+(1:Int)),
                                          r))
                           else some (Sum.inr s_2.2))
                          ((0:Int),s_1.2))
                         fun (o:List (List Int)) =>
                         some (Sum.inl (IntKind.wrap IntKind.i64 (s_1.1+(1:Int)),o))
                      else some (Sum.inr s_1.2))
                     ((0:Int),o))
                    fun (o:List (List Int))=>some (Sum.inl (o,r_6))) :
  loopM body (rt n (fun _=>n) d0,[])=some (row (m0+1) fun m=>rt n (fun _=>n) (wkT bs m)):=by
 refine loopM_fn (fun m=>(rt n (fun _=>n) (wkT bs m),row m fun m=>rt n (fun _=>n) (wkT bs m))) m0 (fun k hk=>?_) ?_
 ·rw [hbody]
  dsimp only
  refine bind_of (app_rowOf rfl (by show (k+1)*24≤140737488355328;omega)) ?_
  rw [rt_idx hf,Option.bind_some,row_idx ht,Option.bind_some,gtI (by have:=h2 k hk;omega),cond_false]
  refine bind_of (none_make hn) (bind_of (far_loop hn) (bind_of (next_loop hn hl hb _) ?_))
  rfl
 ·rw [hbody]
  dsimp only
  refine bind_of (app_rowOf rfl (by show (m0+1)*24≤140737488355328;omega)) ?_
  rw [rt_idx hf,Option.bind_some,row_idx ht,Option.bind_some,leI h1,cond_true]
theorem m63_eq (x:Sys) (v:Int×Int×Int):m63 (x,v)=some (impR x v):=by
 unfold m63 impR
 dsimp only
 rw [show (x.1,x.2)=x from rfl,m64_eq,Option.bind_some]
 cases hs:sys x with
 | false=>rfl
 | true =>
  rw [notT,notF,cond_true,m102_sys hs,Option.bind_some,orF]
  cases hv:bnd x.1 v with
  | false=>rfl
  | true =>
   obtain ⟨hn,hb,he⟩:=sys_all hs
   have hl:=(sys_bnd hs).1.2.2
   have hvb:=of_decide_eq_true hv
   have h39:=m65_eq hn hl hb
   rw [he] at h39
   rw [notT,cond_false]
   refine bind_of (x:=bif ovS x then ([],false) else (rt x.1.toNat (fun _=>x.1.toNat) (fwS x),true)) h39 ?_
   cases ho:ovS x with
   | true=>rfl
   | false =>
    have ef:((v.1.toNat:Nat):Int)=v.1:=by omega
    have et:((v.2.1.toNat:Nat):Int)=v.2.1:=by omega
    have hf:v.1.toNat<x.1.toNat:=by omega
    have ht:v.2.1.toNat<x.1.toNat:=by omega
    rw [cond_false,notT,notF,cond_true]
    refine bind_of (x:=row x.1.toNat (fwS x v.1.toNat)) (by rw [← ef];exact rt_idx hf) ?_
    rw [cond_true]
    refine bind_of (x:=fwS x v.1.toNat v.2.1.toNat) (by rw [← et];exact row_idx ht) ?_
    rw [orF]
    by_cases hle:fwS x v.1.toNat v.2.1.toNat≤v.2.2
    ·rw [geI hle,cond_false,decide_eq_true hle]
     obtain ⟨m,hm,hmw⟩:=fw_short hs ho hf ht (by omega) hle
     obtain ⟨g1,g2,g3⟩:=fstM_of (bs:=x.2) (f:=v.1.toNat) (t:=v.2.1.toNat) (q:=v.2.2) (by omega) hmw
     have h58:=none_table hn
     rw [he] at h58
     refine bind_of h58 ?_
     refine bind_of (m63_walks (n:=x.1.toNat) hn hl hb hf ht (m0:=fstM x.2 v.1.toNat v.2.1.toNat v.2.2) (by omega) g2 g3 (fun s=>by rw [ef,et,he])) ?_
     rw [lenRow]
     have ew:IntKind.wrap IntKind.i64 ((fstM x.2 v.1.toNat v.2.1.toNat v.2.2+1:Nat)-1:Int)=(fstM x.2 v.1.toNat v.2.1.toNat v.2.2:Int):=by rw [wrap_in (by omega) (by omega)];omega
     rw [ew]
     have h44:=m89_eq (n:=x.1.toNat) hl hb (M:=fstM x.2 v.1.toNat v.2.1.toNat v.2.2+1) (to:=v.2.1.toNat) (m:=fstM x.2 v.1.toNat v.2.1.toNat v.2.2) (f:=v.1.toNat) (q:=v.2.2) ht (by omega) (by omega) hf (by omega) (by omega) g2
     rw [he,ef,et] at h44
     refine bind_of h44 rfl
    ·rw [ltI (by omega),cond_true,decide_eq_false hle]
     rfl
theorem imp_accepted {x:Sys} {v:Int×Int×Int} (h:(impR x v).2=true):chkChain x v (impR x v).1=true:=by
 unfold impR at h ⊢
 cases hs:sys x with
 | false=>rw [hs] at h;cases h
 | true =>
  cases hv:bnd x.1 v with
  | false=>rw [hs,hv] at h;cases h
  | true =>
   cases ho:ovS x with
   | true=>rw [hs,hv,ho] at h;cases h
   | false =>
    obtain ⟨hn,hb,he⟩:=sys_all hs
    have hvb:=of_decide_eq_true hv
    have hf:v.1.toNat<x.1.toNat:=by omega
    have ht:v.2.1.toNat<x.1.toNat:=by omega
    by_cases hle:fwS x v.1.toNat v.2.1.toNat≤v.2.2
    ·rw [decide_eq_true hle]
     show chkChain x v (chP x.2 v.2.1.toNat (fstM x.2 v.1.toNat v.2.1.toNat v.2.2) v.1.toNat v.2.2)=true
     obtain ⟨m,hm,hmw⟩:=fw_short hs ho hf ht (by omega) hle
     obtain ⟨g1,g2,g3⟩:=fstM_of (bs:=x.2) (f:=v.1.toNat) (t:=v.2.1.toNat) (q:=v.2.2) (by omega) hmw
     obtain ⟨k1,s',k2,k3⟩:=chP_fol hb ht (fstM x.2 v.1.toNat v.2.1.toNat v.2.2) v.1.toNat v.2.2 0 (by omega) hf (by omega) (by omega) (by omega) (by omega) g2
     have ef:((v.1.toNat:Nat):Int)=v.1:=by omega
     rw [ef] at k2
     have hR:folR x.2 (chP x.2 v.2.1.toNat (fstM x.2 v.1.toNat v.2.1.toNat v.2.2) v.1.toNat v.2.2) v.1=((v.2.1.toNat:Int),s',true):=by
      unfold folR
      rw [k2,k1]
      dsimp only
      rw [decide_eq_true (by omega)]
     unfold chkChain
     rw [hs,hv,hR]
     simp only [Bool.true_and]
     rw [decide_eq_true (show ((v.2.1.toNat:Nat):Int)=v.2.1 by omega),decide_eq_true (show s'≤v.2.2 by omega)]
     rfl
    ·rw [hs,hv,ho,decide_eq_false hle] at h
     cases h
end Go.Proofs.YthfgccfaildmfaaGreatDoor
namespace Go.Proofs.YthfgccfaildmfaaGreatDoor
open Go Go.Abs Go.PE
theorem all_loop {n:Nat} (p:Nat→Bool) {body:Int→Option (Int⊕(Unit⊕Bool))} (hb:∀ k,k<n→body (k:Int)=some (bif p k then .inl ((k:Int)+1) else .inr (.inr false))) (he:body (n:Int)=some (.inr (.inl ()))) :
  ∃ b:Bool,loopM body 0=some (bif b then .inl () else .inr false)∧(b=true↔∀ k,k<n→p k=true):=by
 obtain ⟨o,h1,h2⟩:=loopM_from (body:=body) (fun k s=>s=(k:Int)∧∀ j,j<k→p j=true) (fun o=>(o=.inl ()∧∀ k,k<n→p k=true)∨(o=.inr false∧∃ k,k<n∧p k=false)) n (s:=0) ⟨rfl,fun j hj=>by omega⟩ fun k s hk ⟨hs,hP⟩=>by
  subst hs
  by_cases hlt:k<n
  ·cases hp:p k with
   | true =>
    refine .inl ⟨((k+1:Nat):Int),hlt,by rw [hb k hlt,hp];rfl,rfl,fun j hj=>?_⟩
    by_cases e:j=k
    ·subst e;exact hp
    ·exact hP j (by omega)
   | false=>exact .inr ⟨_,by rw [hb k hlt,hp];rfl,.inr ⟨rfl,k,hlt,hp⟩⟩
  ·have e:k=n:=by omega
   subst e
   exact .inr ⟨_,he,.inl ⟨rfl,hP⟩⟩
 rcases h2 with ⟨rfl,h2⟩ | ⟨rfl,k,hk,h2⟩
 ·exact ⟨true,h1,by simpa using h2⟩
 ·refine ⟨false,h1,?_⟩
  constructor
  ·intro h;cases h
  ·intro h;rw [h k hk] at h2;cases h2
theorem m74_eq {a b:List Int} (hl:a.length≤4611686018427387904):m74 (a,b)=some (decide (a=b)):=by
 unfold m74
 dsimp only
 by_cases e:a.length=b.length
 ·rw [eqI (by show (a.length:Int)=(b.length:Int);omega),notT,cond_false]
  obtain ⟨r,h1,h2⟩:=all_loop (n:=a.length) (fun k=>decide (a[k]? = b[k]?)) (body:=fun (s:Int) =>
      bif ltM s (lenM a) then
       Option.bind (idxM a s) fun (r:Int) =>
        Option.bind (idxM b s) fun (r_1:Int) =>
         bif PE.notM (eqM r r_1) then some (Sum.inr (Sum.inr false))
         else some (Sum.inl (IntKind.wrap IntKind.i64 (s+(1:Int))))
      else some (Sum.inr (Sum.inl ()))) (fun k hk=>by
   have hk':k<b.length:=by omega
   rw [ltI (by show (k:Int)<(a.length:Int);omega),cond_true,idxM_lt hk,Option.bind_some,idxM_lt hk',Option.bind_some,wrap_in (by omega) (by omega),List.getElem?_eq_getElem hk,List.getElem?_eq_getElem hk']
   by_cases e2:a[k]=b[k]
   ·rw [eqI e2,decide_eq_true (by rw [e2])];rfl
   ·rw [neI e2,decide_eq_false (fun h=>e2 (Option.some.inj h))];rfl) (by rw [geI (Int.le_refl _)];rfl)
  refine bind_of h1 ?_
  by_cases e2:a=b
  ·rw [decide_eq_true e2,h2.2 fun k _=>by rw [e2];exact decide_eq_true rfl];rfl
  ·have:r=false:=by
    cases hr:r with
    | false=>rfl
    | true =>
     refine absurd (List.ext_getElem? fun k=>?_) e2
     by_cases hk:k<a.length
     ·exact of_decide_eq_true (h2.1 hr k hk)
     ·rw [List.getElem?_eq_none (by omega),List.getElem?_eq_none (by omega)]
   rw [this,decide_eq_false e2];rfl
 ·rw [neI (by show (a.length:Int)≠(b.length:Int);omega),notF,cond_true,decide_eq_false fun h=>e (by rw [h])]
theorem Wk.mono {bs bs':List (Int×Int×Int)} (hs:∀ c,c∈bs→c∈bs') {i j:Nat} {w:Int} (h:Wk bs i j w):Wk bs' i j w:=by
 induction h with
 | nil=>exact .nil _
 | snoc _ hm ih=>exact ih.snoc (hs _ hm)
theorem fw_far {x:Sys} (hs:sys x=true) (ho:ovS x=false) {i j:Nat} (hi:i<x.1.toNat) (hj:j<x.1.toNat):fwS x i j≤1152921504606846976:=by
 rcases fw_cases hs ho hi hj with ⟨e,_⟩ | ⟨_,e,_⟩<;>omega
theorem fw_tri' {x:Sys} (hs:sys x=true) (ho:ovS x=false) {i k j:Nat} (hi:i<x.1.toNat) (hk:k<x.1.toNat) (hj:j<x.1.toNat) (h1:fwS x i k<1000000000000000000) (h2:fwS x k j<1000000000000000000):fwS x i j≤fwS x i k+fwS x k j:=by
 obtain ⟨hn,hb,_⟩:=sys_all hs
 rcases fw_cases hs ho hi hk with ⟨e,_⟩ | ⟨_,_,e,_⟩
 ·omega
 ·rcases fw_cases hs ho hk hj with ⟨e',_⟩ | ⟨_,_,e',_⟩
  ·omega
  ·exact (fw_least hn hb ho hi (e.trans e')).2.2
end Go.Proofs.YthfgccfaildmfaaGreatDoor
namespace Go.Proofs.YthfgccfaildmfaaGreatDoor
open Go Go.Abs Go.PE
end Go.Proofs.YthfgccfaildmfaaGreatDoor
namespace Go.Proofs.YthfgccfaildmfaaGreatDoor
open Go Go.Abs Go.PE
def short (l:List Int):List Int:=l.take (min l.length 20)
theorem imp_none {x:Sys} {v:Int×Int×Int} (h:(impR x v).2=false):(impR x v).1=[]:=by
 unfold impR at h ⊢
 cases hc:(sys x&&bnd x.1 v&&!ovS x&&decide (fwS x v.1.toNat v.2.1.toNat≤v.2.2)) with
 | true=>rw [hc] at h;cases h
 | false=>rfl
end Go.Proofs.YthfgccfaildmfaaGreatDoor
