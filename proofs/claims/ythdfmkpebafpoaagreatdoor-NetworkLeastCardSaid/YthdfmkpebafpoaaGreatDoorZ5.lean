/-
 Texts of this proof, put together: M0, M1, M2, PA, PB, PC, PD, Ba, Bb, Bc, Bd, Be, Bf, Bg, Bh, Bi, Bj, Bk, Bl, Bm, Bn, Bo, Bp, Bq, Br, Bt, Bu, Bv, Bw, Bx, By, Bz, BA, BB, BC, BD, BE, F, Bs, Ca, Cb, Cc, Cd, Ce, Cf, Ch, Ci, Cj.
 No conditions.
-/
import Derived.Test.YthdfmkpebafpoaaGreatDoorZ4
import Derived.IntWalk
set_option linter.all false
namespace Go.Proofs.YthdfmkpebafpoaaGreatDoor
open Go Go.Abs Go.PE Go.Proofs
open Go.IntKind (wrap)
set_option maxRecDepth 100000
noncomputable section
abbrev tP:Ty:=(.pair tI tI)
abbrev tB:Ty:=(.pair tI tP)
abbrev tC:Ty:=(.pair tI (.pair tI tB))
abbrev tQ:Ty:=(.list tP)
abbrev tL:Ty:=(.list tI)
abbrev tO:Ty:=(.pair tI tQ)
abbrev tD:Ty:=(.pair tO (.list tC))
abbrev z0:Fl:=.s [] []
def ra:Nat→Nat→List Nat→List Nat
 | _,0,l=>l
 | a,n+1,l=>a::ra (a+1) n l
def za:Nat→List Fl→List Fl
 | 0,l=>l
 | n+1,l=>z0::za n l
theorem fc {f:FuncId} {ta tr:List Ty} {m:Tup (ta.map .d)→Option (Tup (tr.map .d))} {Γ:Tabs} (h:TabOK Tryz.prog Γ) (own:List Nat) (an:Ann) (fn:Func) (hm:∀ x,fnM OPS 400 Γ own an fn (fn.body.getD .skip) ta tr x=m x) (hf:lk Γ.fn f=some fn:=by kernel_rfl) (hb:fn.body=some (fn.body.getD .skip):=by kernel_rfl) (hn:Nat.ble ta.length fn.ntmps=true:=by kernel_rfl):SpecOK Tryz.prog f ⟨ta,tr,m⟩:=fnM_ok h OPS_sound OPS_nice hf hb hn hm
def tabsA:Tabs:={ tabs with mps:=[] }
theorem mpsOK:∀ f es,lk tabsA.mps f=some es→MapOK Tryz.prog f es:=by
 show ∀ f es,lk [] f=some es→MapOK Tryz.prog f es
 exact lk_none
theorem tabsAOK:TabOK Tryz.prog tabsA:=⟨tabsOK.ty,tabsOK.fn,tabsOK.sp,tabsOK.en,tabsOK.mixed,tabsOK.so,tabsOK.eqs,tabsOK.so1,mpsOK,tabsOK.ow,tabsOK.bt,tabsOK.ex⟩
def ano43:Ann:=.a
def mo43:List (Int×Int)→Option (List (Int×Int)) :=
 fun x=>nilM x (some []) ((appM (nat_lit 16) [] x).bind fun r=>some r)
theorem co43:OwnOK Tryz.prog 43 ⟨[(.list (.pair tI tI))],(.pair tI tI),mo43⟩ :=
 fnOw_ok (own:=[]) (an:=ano43) (n:=400) tabsAOK (F:=OPS) OPS_sound OPS_nice (f:=43) (fn:=Tryz.f43) (code:=Tryz.f43.body.getD .skip) (by kernel_rfl) (by kernel_rfl) (by kernel_rfl) Tryz.call43 fun x=>by kernel_rfl
def tabsO43:Tabs:=Tabs.addOw tabsA 43 ⟨[(.list (.pair tI tI))],(.pair tI tI),mo43⟩
theorem tabsO43OK:TabOK Tryz.prog tabsO43:=TabOK.addOw tabsAOK co43
def tabsX:Tabs:=tabsO43
theorem tabsXOK:TabOK Tryz.prog tabsX:=tabsO43OK

/-! putlog/network.within -/
def as34:List Ty:=[tI,tI,tI]
def rs34:List Ty:=[.bool]
def an34:Ann:=.a
def m34:(Int×Int×Int)→Option (Bool) :=
 fun x=>some (PE.andM (leM x.2.1 x.1) (leM x.1 x.2.2))
theorem c34:SpecOK Tryz.prog 34 ⟨as34,rs34,m34⟩ :=
 fc tabsXOK [] an34 Tryz.f34 fun x=>by kernel_rfl
def tabs34:Tabs:=Tabs.add tabsX 34 ⟨as34,rs34,m34⟩
theorem tabs34OK:TabOK Tryz.prog tabs34:=TabOK.add tabsXOK c34 Tryz.call34

/-! putlog/network.isNear -/
def as42:List Ty:=[tI,tI,tI]
def rs42:List Ty:=[.bool]
def an42:Ann:=.a
def m42:(Int×Int×Int)→Option (Bool) :=
 fun x=>(m34 (x.1,wrap IntKind.i64 (negM x.2.2),x.2.2)).bind fun r=>(bif r then m34 (x.2.1,wrap IntKind.i64 (negM x.2.2),x.2.2) else some false).bind fun
 r_1=>some (PE.andM r r_1)
theorem c42:SpecOK Tryz.prog 42 ⟨as42,rs42,m42⟩ :=
 fc tabs34OK [] an42 Tryz.f42 fun x=>by kernel_rfl
def tabs42:Tabs:=Tabs.add tabs34 42 ⟨as42,rs42,m42⟩
theorem tabs42OK:TabOK Tryz.prog tabs42:=TabOK.add tabs34OK c42 Tryz.call42

/-! putlog/network.Valid -/
def as19:List Ty:=[(.pair tI (.pair (.list (.pair tI tB)) (.list tC)))]
def rs19:List Ty:=[.bool]
def an19:Ann:=.seq (.a) (.seq (.a) (.seq (.a) (.seq (.a) (.seq (.reg [] [] [z0,.s [0] [],z0,.r,z0,z0,z0,.s [0] [],z0,.r,z0,z0,z0] (.call [] [] (.seq (.a) (.seq (.reg [] [] [z0,z0,.r,z0,z0] (.call [] [(.norm,⟨[(7,.r (.c (.d (.d tI))))],[],[],[]⟩)] (.seq (.a) (.seq (.seq (.a) (.block (.loop ⟨[(8,.r (.c (.d (.d tI))))],(5::ra 9 8 (18::[])),[],[]⟩ [(.exit 0,⟨[],(5::ra 8 9 (18::[])),[],[]⟩),(.ret,⟨[(4,.r (.c (.d (.d tI))))],(5::ra 8 11 ([])),[],[]⟩)] (.seq (.a) (.seq (.a) (.seq (.block (.seq (.a) (.seq (.reg [] [] [z0,z0,z0,z0,z0,.r] (.call [] [] (.seq (.a) (.a)) (.a))) (.a)))) (.a))))))) (.a))) (.a))) (.a))) (.call [] [(.norm,⟨[(32,.r (.c (.d (.d .bool))))],[],[],[]⟩)] (.seq (.a) (.seq (.reg [] [] [z0,z0,.r,z0,z0] (.call [] [(.norm,⟨[(7,.r (.c (.d (.d tI))))],[],[],[]⟩)] (.seq (.a) (.seq (.seq (.a) (.block (.loop ⟨[(8,.r (.c (.d (.d tI))))],(5::ra 9 8 (18::[])),[],[]⟩ [(.exit 0,⟨[],(5::ra 8 9 (18::[])),[],[]⟩),(.ret,⟨[(4,.r (.c (.d (.d tI))))],(5::ra 8 11 ([])),[],[]⟩)] (.seq (.a) (.seq (.a) (.seq (.block (.seq (.a) (.seq (.reg [] [] [z0,z0,z0,z0,z0,.r] (.call [] [] (.seq (.a) (.a)) (.a))) (.a)))) (.a))))))) (.a))) (.a))) (.a))) (.a)))) (.a)))))
def m19:(Int×(List (Int×Int×Int×Int))×List (Int×Int×Int×Int×Int))→Option (Bool) :=
 fun x=>(m34 (x.1,0,8)).bind fun r=>bif PE.orM (PE.orM (PE.notM r) (ltM 8 (lenM x.2.1))) (ltM 20 (lenM x.2.2)) then some false else ((loopM (fun (s:Int)
 => bif ltM s (lenM x.2.1) then (idxM x.2.1 s).bind fun r_1=>(m34 (r_1.1,0,wrap IntKind.i64 (x.1-1))).bind fun r_2=>(bif PE.notM (PE.notM r_2) then m42
 (r_1.2.1,r_1.2.2.1,10000) else some false).bind fun r_3=>(bif PE.notM (PE.orM (PE.notM r_2) (PE.notM r_3)) then m34 (r_1.2.2.2,0,1000) else some
 false).bind fun r=>bif PE.orM (PE.orM (PE.notM r_2) (PE.notM r_3)) (PE.notM r) then some (Sum.inr (Sum.inr s)) else some (Sum.inl (wrap IntKind.i64 (s +
 1))) else some (Sum.inr (Sum.inl ()))) 0).bind fun o=>Sum.elim (fun (t:Unit)=>some (-1)) (fun (t:Int)=>some t) o).bind fun (ov:Int)=>(bif
 PE.notM (leM 0 ov) then ((loopM (fun (s:Int)=>bif ltM s (lenM x.2.2) then (idxM x.2.2 s).bind fun r_1=>(m34 (r_1.1,0,wrap IntKind.i64 (x.1-1))).bind
 fun r_2=>(bif PE.notM (PE.notM r_2) then m34 (r_1.2.1,0,wrap IntKind.i64 (x.1-1)) else some false).bind fun r_3=>(bif PE.notM (PE.orM (PE.orM (PE.notM
 r_2) (PE.notM r_3)) (eqM r_1.1 r_1.2.1)) then m42 (r_1.2.2.1,r_1.2.2.2.1,10000) else some false).bind fun r_4=>(bif PE.notM (PE.orM (PE.orM (PE.orM
 (PE.notM r_2) (PE.notM r_3)) (eqM r_1.1 r_1.2.1)) (PE.notM r_4)) then m34 (r_1.2.2.2.2,0,1000) else some false).bind fun r=>bif PE.orM (PE.orM (PE.orM
 (PE.orM (PE.notM r_2) (PE.notM r_3)) (eqM r_1.1 r_1.2.1)) (PE.notM r_4)) (PE.notM r) then some (Sum.inr (Sum.inr s)) else some (Sum.inl (wrap IntKind.i64 (s +
 1))) else some (Sum.inr (Sum.inl ()))) 0).bind fun o=>Sum.elim (fun (t:Unit)=>some (-1)) (fun (t:Int)=>some t) o).bind fun (ov:Int)=>some (leM 0
 ov) else some false).bind fun (ov_1:Bool)=>some (PE.andM (PE.notM (leM 0 ov)) (PE.notM ov_1))
theorem c19:SpecOK Tryz.prog 19 ⟨as19,rs19,m19⟩ :=
 fc tabs42OK [] an19 Tryz.f19 fun x=>by kernel_rfl
def tabs19:Tabs:=Tabs.add tabs42 19 ⟨as19,rs19,m19⟩
theorem tabs19OK:TabOK Tryz.prog tabs19:=TabOK.add tabs42OK c19 Tryz.call19

/-! (putlog/network.vector).right -/
def as63:List Ty:=[tP]
def rs63:List Ty:=[tI]
def an63:Ann:=.a
def m63:(Int×Int)→Option (Int) :=
 fun x=>some x.1
theorem c63:SpecOK Tryz.prog 63 ⟨as63,rs63,m63⟩ :=
 fc tabs19OK [] an63 Tryz.f63 fun x=>by kernel_rfl
def tabs63:Tabs:=Tabs.add tabs19 63 ⟨as63,rs63,m63⟩
theorem tabs63OK:TabOK Tryz.prog tabs63:=TabOK.add tabs19OK c63 Tryz.call63

/-! (putlog/network.vector).up -/
def as64:List Ty:=[tP]
def rs64:List Ty:=[tI]
def an64:Ann:=.a
def m64:(Int×Int)→Option (Int) :=
 fun x=>some x.2
theorem c64:SpecOK Tryz.prog 64 ⟨as64,rs64,m64⟩ :=
 fc tabs63OK [] an64 Tryz.f64 fun x=>by kernel_rfl
def tabs64:Tabs:=Tabs.add tabs63 64 ⟨as64,rs64,m64⟩
theorem tabs64OK:TabOK Tryz.prog tabs64:=TabOK.add tabs63OK c64 Tryz.call64

/-! putlog/network.axes -/
def as36:List Ty:=[(.pair tI (.pair (.list (.pair tI tB)) (.list tC)))]
def rs36:List Ty:=[(.pair (.pair tI (.list tB)) (.pair tI (.list tB)))]
def an36:Ann:=.seq (.a) (.seq (.a) (.seq (.seq (.reg [] [] [.s [0] [],.r] (.call [] [] (.seq (.a) (.a)) (.a))) (.block (.call [] [] (.seq (.seq (.a) (.block (.loop ⟨[(10,.r (.c (.d (.d tI))))],(4::ra 11 19 ([])),[(2,.box [.d (.d tI),.h 5,.d (.d tI),.h 6]),(4,.lp .ready)],[.arr tB,.arr tB]⟩ [(.exit 0,⟨[],(4::ra 10 20 ([])),[(2,.box [.d (.d tI),.h 5,.d (.d tI),.h 6]),(4,.lp .ready)],[.arr tB,.arr tB]⟩)] (.seq (.a) (.seq (.a) (.seq (.block (.seq (.a) (.seq (.reg [] [] [z0,z0,.s [7] [],z0,.s [7] [],z0,z0,.s [3] [],z0,.s [7] [],z0,.s [7] [],z0,.r,z0] (.call [] [] (.seq (.a) (.block (.seq (.a) (.block (.seq (.seq (.a) (.seq (.a) (.seq (.block (.seq (.a) (.seq (.a) (.reg [0,0,2,6,14,0,32,0,128,0,0,1024,3584,8160,0,16384,0,65536,0,262144,0,1835008,4177920,8388576,16777214,33554431,67108863,134217727] (ra 0 28 ([])) (z0::z0::.s [2] []::z0::.s [2] []::z0::.s [8] []::z0::.s [8] []::z0::z0::.s [8] []::za 3 (.s [8] []::z0::.s [8] []::z0::.s [8] []::za 4 (.s [5] [10,5]::.s [2] []::z0::.s [2,10] [2]::[]))) (.a))))) (.a)))) (.seq (.seq (.a) (.seq (.a) (.seq (.block (.seq (.a) (.seq (.a) (.reg [0,0,2,6,14,0,32,0,128,0,0,1024,3584,8160,0,16384,0,65536,0,262144,0,1835008,4177920,8388576,16777214,33554431,67108863,134217727] (ra 0 28 ([])) (z0::z0::.s [2] []::z0::.s [2] []::z0::.s [8] []::z0::.s [8] []::z0::z0::.s [8] []::za 3 (.s [8] []::z0::.s [8] []::z0::.s [8] []::za 4 (.s [6] [11,6]::.s [2] []::z0::.s [2,11] [2]::[]))) (.a))))) (.a)))) (.seq (.a) (.join [] (.a))))))))) (.a))) (.a)))) (.a))))))) (.seq (.a) (.block (.loop ⟨[(33,.r (.c (.d (.d tI))))],(6::ra 34 19 ([])),[(2,.box [.d (.d tI),.h 7,.d (.d tI),.h 8]),(4,.lp .ready),(5,.gone),(6,.gone)],[.arr tB,.arr tB]⟩ [(.exit 2,⟨[],(6::ra 33 20 ([])),[(2,.box [.d (.d tI),.h 7,.d (.d tI),.h 8]),(4,.lp .ready),(5,.gone),(6,.gone)],[.arr tB,.arr tB]⟩)] (.seq (.a) (.seq (.a) (.seq (.block (.seq (.a) (.seq (.reg [] [] [z0,z0,.s [9] [],z0,.s [9] [],z0,z0,.s [9] [],z0,.s [9] [],z0,.s [9] [],z0,.r,z0] (.call [] [] (.seq (.a) (.block (.seq (.a) (.block (.seq (.seq (.a) (.seq (.a) (.seq (.block (.seq (.a) (.seq (.a) (.reg [0,0,2,6,14,0,32,0,128,0,0,1024,3584,8160,0,16384,0,65536,0,262144,0,1835008,4177920,8388576,16777214,33554431,67108863,134217727] (ra 0 28 ([])) (z0::z0::.s [2] []::z0::.s [2] []::z0::.s [10] []::z0::.s [10] []::z0::z0::.s [10] []::za 3 (.s [10] []::z0::.s [10] []::z0::.s [10] []::za 4 (.s [7] [12,7]::.s [2] []::z0::.s [2,12] [2]::[]))) (.a))))) (.a)))) (.seq (.seq (.a) (.seq (.a) (.seq (.block (.seq (.a) (.seq (.a) (.reg [0,0,2,6,14,0,32,0,128,0,0,1024,3584,8160,0,16384,0,65536,0,262144,0,1835008,4177920,8388576,16777214,33554431,67108863,134217727] (ra 0 28 ([])) (z0::z0::.s [2] []::z0::.s [2] []::z0::.s [10] []::z0::.s [10] []::z0::z0::.s [10] []::za 3 (.s [10] []::z0::.s [10] []::z0::.s [10] []::za 4 (.s [8] [13,8]::.s [2] []::z0::.s [2,13] [2]::[]))) (.a))))) (.a)))) (.seq (.a) (.join [] (.a))))))))) (.a))) (.a)))) (.a)))))))) (.a)))) (.a)))
def m36:(Int×(List (Int×Int×Int×Int))×List (Int×Int×Int×Int×Int))→Option ((Int×List (Int×Int×Int))×Int×List (Int×Int×Int)) :=
 fun x=>(loopM (fun (s:Int×Int×Int×List (Int×Int×Int)×List (Int×Int×Int))=>bif ltM s.1 (lenM x.2.1) then (idxM x.2.1 s.1).bind fun r =>
 (m63 (r.2.1,r.2.2.1)).bind fun r_1=>(appM (nat_lit 24) s.2.2.2.1 [(x.1,r.1,wrap IntKind.i64 (r_1+r.2.2.2)),(r.1,x.1,wrap IntKind.i64 (r.2.2.2 -
 r_1))]).bind fun r_2=>(m64 (r.2.1,r.2.2.1)).bind fun r_3=>(appM (nat_lit 24) s.2.2.2.2 [(x.1,r.1,wrap IntKind.i64 (r_3+r.2.2.2)),(r.1,x.1,wrap
 IntKind.i64 (r.2.2.2-r_3))]).bind fun r=>some (Sum.inl (wrap IntKind.i64 (s.1+1),s.2.1,s.2.2.1,r_2,r)) else some (Sum.inr (s.2.1,s.2.2.1,
 s.2.2.2.1,s.2.2.2.2))) (0,wrap IntKind.i64 (x.1+1),wrap IntKind.i64 (x.1+1),[],[])).bind fun o=>(loopM (fun (s:Int×Int×Int×List (Int×Int
 × Int)×List (Int×Int×Int))=>bif ltM s.1 (lenM x.2.2) then (idxM x.2.2 s.1).bind fun r=>(m63 (r.2.2.1,r.2.2.2.1)).bind fun r_1=>(appM (nat_lit 24)
 s.2.2.2.1 [(r.1,r.2.1,wrap IntKind.i64 (r_1+r.2.2.2.2)),(r.2.1,r.1,wrap IntKind.i64 (r.2.2.2.2-r_1))]).bind fun r_2=>(m64 (r.2.2.1,
 r.2.2.2.1)).bind fun r_3=>(appM (nat_lit 24) s.2.2.2.2 [(r.1,r.2.1,wrap IntKind.i64 (r_3+r.2.2.2.2)),(r.2.1,r.1,wrap IntKind.i64 (r.2.2.2.2 -
 r_3))]).bind fun r=>some (Sum.inl (wrap IntKind.i64 (s.1+1),s.2.1,s.2.2.1,r_2,r)) else some (Sum.inr (s.2.1,s.2.2.1,s.2.2.2.1,s.2.2.2.2))) (0,o.1,
 o.2.1,o.2.2.1,o.2.2.2)).bind fun o=>some ((o.1,o.2.2.1),o.2.1,o.2.2.2)
theorem c36:SpecOK Tryz.prog 36 ⟨as36,rs36,m36⟩ :=
 fc tabs64OK [] an36 Tryz.f36 fun x=>by kernel_rfl
def tabs36:Tabs:=Tabs.add tabs64 36 ⟨as36,rs36,m36⟩
theorem tabs36OK:TabOK Tryz.prog tabs36:=TabOK.add tabs64OK c36 Tryz.call36

/-! putlog/between.isIn -/
def as93:List Ty:=[tI,tI,tI]
def rs93:List Ty:=[.bool]
def an93:Ann:=.a
def m93:(Int×Int×Int)→Option (Bool) :=
 fun x=>some (PE.andM (leM x.2.1 x.1) (leM x.1 x.2.2))
theorem c93:SpecOK Tryz.prog 93 ⟨as93,rs93,m93⟩ :=
 fc tabs36OK [] an93 Tryz.f93 fun x=>by kernel_rfl
def tabs93:Tabs:=Tabs.add tabs36 93 ⟨as93,rs93,m93⟩
theorem tabs93OK:TabOK Tryz.prog tabs93:=TabOK.add tabs36OK c93 Tryz.call93

/-! putlog/between.isBound -/
def as96:List Ty:=[tI,tB]
def rs96:List Ty:=[.bool]
def an96:Ann:=.a
def m96:(Int×Int×Int×Int)→Option (Bool) :=
 fun x=>(m93 (x.2.1,0,wrap IntKind.i64 (x.1-1))).bind fun r=>(bif r then m93 (x.2.2.1,0,wrap IntKind.i64 (x.1-1)) else some false).bind fun r_1 =>
 (bif PE.andM r r_1 then m93 (x.2.2.2,(-1000000000),1000000000) else some false).bind fun r_2=>some (PE.andM (PE.andM r r_1) r_2)
theorem c96:SpecOK Tryz.prog 96 ⟨as96,rs96,m96⟩ :=
 fc tabs93OK [] an96 Tryz.f96 fun x=>by kernel_rfl
def tabs96:Tabs:=Tabs.add tabs93 96 ⟨as96,rs96,m96⟩
theorem tabs96OK:TabOK Tryz.prog tabs96:=TabOK.add tabs93OK c96 Tryz.call96

/-! putlog/between.Valid -/
def as65:List Ty:=[(.pair tI (.list tB))]
def rs65:List Ty:=[.bool]
def an65:Ann:=.seq (.a) (.seq (.reg [] [] [z0,.s [0] [],z0,z0,z0,.s [0] [],z0,z0,z0,z0,z0,.s [0] [],z0,.r,z0,z0,z0] (.call [] [(.norm,⟨[(16,.r (.c (.d (.d .bool))))],[],[],[]⟩)] (.seq (.a) (.seq (.reg [] [] [z0,z0,.r,z0,z0] (.call [] [(.norm,⟨[(7,.r (.c (.d (.d tI))))],[],[],[]⟩)] (.seq (.a) (.seq (.seq (.a) (.block (.loop ⟨[(8,.r (.c (.d (.d tI))))],(5::ra 9 8 (18::[])),[],[]⟩ [(.exit 0,⟨[],(5::ra 8 9 (18::[])),[],[]⟩),(.ret,⟨[(4,.r (.c (.d (.d tI))))],(5::ra 8 11 ([])),[],[]⟩)] (.seq (.a) (.seq (.a) (.seq (.block (.seq (.a) (.seq (.reg [] [] [z0,z0,z0,z0,z0,.r] (.call [] [] (.seq (.a) (.a)) (.a))) (.a)))) (.a))))))) (.a))) (.a))) (.a))) (.a))) (.a))
def m65:(Int×List (Int×Int×Int))→Option (Bool) :=
 fun x=>(m93 (x.1,0,16)).bind fun r=>(bif PE.andM r (leM (lenM x.2) 60) then ((loopM (fun (s:Int)=>bif ltM s (lenM x.2) then (idxM x.2 s).bind fun r_1
 => (m96 (x.1,r_1.1,r_1.2.1,r_1.2.2)).bind fun r=>bif PE.notM r then some (Sum.inr (Sum.inr s)) else some (Sum.inl (wrap IntKind.i64 (s+1))) else some
 (Sum.inr (Sum.inl ()))) 0).bind fun o=>Sum.elim (fun (t:Unit)=>some (-1)) (fun (t:Int)=>some t) o).bind fun (ov:Int)=>some (leM 0 ov) else some
 false).bind fun (ov:Bool)=>some (PE.andM (PE.andM r (leM (lenM x.2) 60)) (PE.notM ov))
theorem c65:SpecOK Tryz.prog 65 ⟨as65,rs65,m65⟩ :=
 fc tabs96OK [] an65 Tryz.f65 fun x=>by kernel_rfl
def tabs65:Tabs:=Tabs.add tabs96 65 ⟨as65,rs65,m65⟩
theorem tabs65OK:TabOK Tryz.prog tabs65:=TabOK.add tabs96OK c65 Tryz.call65

/-! putlog/between.none$1 -/
def as134:List Ty:=[tI,tI]
def rs134:List Ty:=[tI]
def an134:Ann:=.a
def m134:(Int×Int)→Option (Int) :=
 fun x=>bif eqM x.1 x.2 then some 0 else some 1152921504606846976
theorem c134:SpecOK Tryz.prog 134 ⟨as134,rs134,m134⟩ :=
 fc tabs65OK [] an134 Tryz.f134 fun x=>by kernel_rfl
def tabs134:Tabs:=Tabs.add tabs65 134 ⟨as134,rs134,m134⟩
theorem tabs134OK:TabOK Tryz.prog tabs134:=TabOK.add tabs65OK c134 Tryz.call134

/-! putlog/between.none -/
def as97:List Ty:=[tI]
def rs97:List Ty:=[(.list tL)]
def an97:Ann:=.seq (.a) (.seq (.reg [] [] [z0,.r,z0] (.call [9] [] (.seq (.a) (.seq (.a) (.seq (.seq (.a) (.block (.loop ⟨[(11,.r (.c (.d (.d tI))))],(6::7::ra 12 21 ([])),[(0,.tab tI 2),(1,.gone)],[.us]⟩ [(.exit 0,⟨[],(6::7::ra 11 22 ([])),[(0,.tab tI 2),(1,.gone)],[.us]⟩)] (.seq (.a) (.seq (.a) (.seq (.block (.seq (.a) (.seq (.a) (.block (.loop ⟨[(15,.r (.c (.d (.d tI))))],(7::ra 16 16 ([])),[(0,.tab tI 3),(2,.gone)],[.us]⟩ [(.exit 2,⟨[],(7::ra 15 17 ([])),[(0,.tab tI 3),(2,.gone)],[.us]⟩)] (.seq (.a) (.seq (.a) (.seq (.block (.seq (.a) (.reg [0,0,0,0,12,28,0,0,0,448,960,2044,4095,8191] (ra 0 14 ([])) (za 4 (.s [0] []::.s [0] []::za 5 (.s [0] [0]::.s [0] []::.s [0,0] [0]::[]))) (.a)))) (.a))))))))) (.a))))))) (.a)))) (.a))) (.a))
def m97:Int→Option (List (List Int)) :=
 fun x=>(mkM x x (nat_lit 24) []).bind fun r=>(loopM (fun (s:Int×List (List Int))=>bif ltM s.1 x then (loopM (fun (s_1:Int×List (List Int))=>bif
 ltM s_1.1 x then (chkM s.1 (lenM s_1.2)).bind fun r_1=>(chkM s.1 (lenM s_1.2)).bind fun r_2=>(m134 (s.1,s_1.1)).bind fun r_3=>(app2M (nat_lit 8) s_1.2
 s.1 [r_3]).bind fun r_4=>(chkM s.1 (lenM r_4)).bind fun r_5=>((sameM s.1 s.1).bind fun (x:Unit)=>(sameM s.1 s.1).bind fun (x:Unit)=>chkM s.1 (lenM
 r_4)).bind fun r=>some (Sum.inl (wrap IntKind.i64 (s_1.1+1),r_4)) else some (Sum.inr s_1.2)) (0,s.2)).bind fun o=>some (Sum.inl (wrap IntKind.i64 (s.1
 + 1),o)) else some (Sum.inr s.2)) (0,r)).bind fun o=>some o
theorem c97:SpecOK Tryz.prog 97 ⟨as97,rs97,m97⟩ :=
 fc tabs134OK [] an97 Tryz.f97 fun x=>by kernel_rfl
def tabs97:Tabs:=Tabs.add tabs134 97 ⟨as97,rs97,m97⟩
theorem tabs97OK:TabOK Tryz.prog tabs97:=TabOK.add tabs134OK c97 Tryz.call97

/-! putlog/between.plus -/
def as68:List Ty:=[tI,tI]
def rs68:List Ty:=[tI]
def an68:Ann:=.a
def m68:(Int×Int)→Option (Int) :=
 fun x=>bif PE.orM (eqM x.1 1152921504606846976) (eqM x.2 1152921504606846976) then some 1152921504606846976 else some (wrap IntKind.i64 (x.1+x.2))
theorem c68:SpecOK Tryz.prog 68 ⟨as68,rs68,m68⟩ :=
 fc tabs97OK [] an68 Tryz.f68 fun x=>by kernel_rfl
def tabs68:Tabs:=Tabs.add tabs97 68 ⟨as68,rs68,m68⟩
theorem tabs68OK:TabOK Tryz.prog tabs68:=TabOK.add tabs97OK c68 Tryz.call68

/-! putlog/between.distances -/
def as66:List Ty:=[(.pair tI (.list tB))]
def rs66:List Ty:=[(.list tL),.bool]
def an66:Ann:=.seq (.a) (.seq (.reg [] [] [z0,.s [0] [],.r,z0] (.call [] [] (.seq (.a) (.seq (.reg [] [] [z0,.r,z0] (.call [9] [] (.seq (.a) (.seq (.a) (.seq (.seq (.a) (.block (.loop ⟨[(11,.r (.c (.d (.d tI))))],(6::7::ra 12 21 ([])),[(1,.tab tI 3),(2,.gone)],[.us]⟩ [(.exit 0,⟨[],(6::7::ra 11 22 ([])),[(1,.tab tI 3),(2,.gone)],[.us]⟩)] (.seq (.a) (.seq (.a) (.seq (.block (.seq (.a) (.seq (.a) (.block (.loop ⟨[(15,.r (.c (.d (.d tI))))],(7::ra 16 16 ([])),[(1,.tab tI 4),(3,.gone)],[.us]⟩ [(.exit 2,⟨[],(7::ra 15 17 ([])),[(1,.tab tI 4),(3,.gone)],[.us]⟩)] (.seq (.a) (.seq (.a) (.seq (.block (.seq (.a) (.reg [0,0,0,0,12,28,0,0,0,448,960,2044,4095,8191] (ra 0 14 ([])) (za 4 (.s [1] []::.s [1] []::za 5 (.s [1] [1]::.s [1] []::.s [1,1] [1]::[]))) (.a)))) (.a))))))))) (.a))))))) (.a)))) (.a))) (.a))) (.a))) (.seq (.seq (.a) (.block (.loop ⟨[(18,.r (.c (.d (.d tI))))],(6::ra 19 24 ([])),[(1,.tab tI 3)],[]⟩ [(.exit 0,⟨[],(6::ra 18 25 ([])),[(1,.tab tI 3)],[]⟩)] (.seq (.a) (.seq (.a) (.seq (.block (.seq (.a) (.reg [0,0,2,7,15,0,32,0,0,256,896,1920,0,4096,16256,32640,0,65536,262016,524287,1048575] (ra 0 21 ([])) [z0,z0,.s [4] [],.s [1] [],.s [1] [],z0,.s [4] [],z0,z0,.s [4] [],.s [1] [],.s [1] [],z0,.s [4] [],.s [1] [],.s [1] [],z0,.s [4] [],z0,.s [1] [],.s [1] [1]] (.a)))) (.a))))))) (.seq (.seq (.a) (.block (.loop ⟨[(45,.r (.c (.d (.d tI))))],(7::8::9::10::ra 46 50 ([])),[(1,.tab tI 3)],[]⟩ [(.exit 2,⟨[],(7::8::9::10::ra 45 51 ([])),[(1,.tab tI 3)],[]⟩)] (.seq (.a) (.seq (.a) (.seq (.block (.seq (.a) (.seq (.a) (.seq (.a) (.seq (.a) (.block (.loop ⟨[(59,.r (.c (.d (.d tI))))],(9::10::ra 60 35 ([])),[(1,.tab tI 3)],[]⟩ [(.exit 4,⟨[],(9::10::ra 59 36 ([])),[(1,.tab tI 3)],[]⟩)] (.seq (.a) (.seq (.a) (.seq (.block (.seq (.a) (.seq (.a) (.block (.loop ⟨[(64,.r (.c (.d (.d tI))))],(10::ra 65 29 ([])),[(1,.tab tI 3)],[]⟩ [(.exit 6,⟨[],(10::ra 64 30 ([])),[(1,.tab tI 3)],[]⟩)] (.seq (.a) (.seq (.a) (.seq (.block (.seq (.a) (.reg [0,0,3,7,0,0,0,96,224,0,992,2016,0,0,12288,28672,0,126976,258048,0,0,1572864,3670016,8384512,16777184,33554431,67108863] (ra 0 27 ([])) (z0::z0::.s [1] []::.s [1] []::za 3 (.s [1] []::.s [1] []::z0::.s [1] []::.s [1] []::z0::z0::.s [1] []::.s [1] []::z0::.s [1] []::.s [1] []::z0::z0::.s [4] []::.s [4] []::z0::z0::.s [1] []::.s [1] [1]::[])) (.a)))) (.a))))))))) (.a))))))))))) (.a))))))) (.seq (.seq (.a) (.block (.loop ⟨[(98,.r (.c (.d (.d tI))))],(11::ra 99 11 ([])),[],[]⟩ [(.exit 8,⟨[],(11::ra 98 12 ([])),[],[]⟩),(.ret,⟨[(2,.r (.c (.l .nilS))),(3,.r (.c (.d (.d .bool))))],(11::ra 98 12 ([])),[],[]⟩)] (.a)))) (.a)))))
def m66:(Int×List (Int×Int×Int))→Option (List (List Int)×Bool) :=
 fun x=>(mkM x.1 x.1 (nat_lit 24) []).bind fun r=>(loopM (fun (s:Int×List (List Int))=>bif ltM s.1 x.1 then (loopM (fun (s_1:Int×List (List Int))
 => bif ltM s_1.1 x.1 then (chkM s.1 (lenM s_1.2)).bind fun r_1=>(chkM s.1 (lenM s_1.2)).bind fun r_2=>(m134 (s.1,s_1.1)).bind fun r_3=>(app2M (nat_lit
 8) s_1.2 s.1 [r_3]).bind fun r_4=>(chkM s.1 (lenM r_4)).bind fun r_5=>((sameM s.1 s.1).bind fun (x:Unit)=>(sameM s.1 s.1).bind fun (x:Unit)=>chkM
 s.1 (lenM r_4)).bind fun r=>some (Sum.inl (wrap IntKind.i64 (s_1.1+1),r_4)) else some (Sum.inr s_1.2)) (0,s.2)).bind fun o=>some (Sum.inl (wrap
 IntKind.i64 (s.1+1),o)) else some (Sum.inr s.2)) (0,r)).bind fun o=>(loopM (fun (s:Int×List (List Int))=>bif ltM s.1 (lenM x.2) then (idxM x.2
 s.1).bind fun r_1=>(chkM r_1.1 (lenM s.2)).bind fun r_2=>(chkM r_1.1 (lenM s.2)).bind fun r_3=>(chkM r_1.1 (lenM s.2)).bind fun r_4=>(chkM r_1.1 (lenM
 s.2)).bind fun r_5=>((idxM s.2 r_1.1).bind fun (xs:List Int)=>chkM r_1.2.1 (lenM xs)).bind fun r_6=>((idxM s.2 r_1.1).bind fun (xs:List Int) =>
 (idxM xs r_1.2.1).bind fun (x:Int)=>some x).bind fun r_7=>((idxM s.2 r_1.1).bind fun (xs:List Int)=>chkM r_1.2.1 (lenM xs)).bind fun r_8=>(set2M
 s.2 r_1.1 r_1.2.1 fun (x:Int)=>some (min r_7 r_1.2.2)).bind fun r=>some (Sum.inl (wrap IntKind.i64 (s.1+1),r)) else some (Sum.inr s.2)) (0,o)).bind
 fun o_1=>(loopM (fun (s:Int×List (List Int))=>bif ltM s.1 x.1 then (mkM x.1 x.1 (nat_lit 8) 0).bind fun r_1=>(chkM s.1 (lenM s.2)).bind fun r_2 =>
 (chkM s.1 (lenM s.2)).bind fun r_3=>(idxM s.2 s.1).bind fun r_4=>(loopM (fun (s_1:Int×List (List Int))=>bif ltM s_1.1 x.1 then (loopM (fun (s_2 :
 Int×List (List Int))=>bif ltM s_2.1 x.1 then (chkM s_1.1 (lenM s_2.2)).bind fun r_5=>(chkM s_1.1 (lenM s_2.2)).bind fun r_6=>(chkM s_1.1 (lenM
 s_2.2)).bind fun r_7=>(chkM s_1.1 (lenM s_2.2)).bind fun r_8=>((idxM s_2.2 s_1.1).bind fun (xs:List Int)=>chkM s_2.1 (lenM xs)).bind fun r_9=>((idxM
 s_2.2 s_1.1).bind fun (xs:List Int)=>(idxM xs s_2.1).bind fun (x:Int)=>some x).bind fun r_10=>(chkM s_1.1 (lenM s_2.2)).bind fun r_11=>(chkM s_1.1
 (lenM s_2.2)).bind fun r_12=>((idxM s_2.2 s_1.1).bind fun (xs:List Int)=>chkM s.1 (lenM xs)).bind fun r_13=>((idxM s_2.2 s_1.1).bind fun (xs:List
 Int)=>(idxM xs s.1).bind fun (x:Int)=>some x).bind fun r_14=>(chkM s_2.1 (lenM (copyM r_1 r_4))).bind fun r_15=>(idxM (copyM r_1 r_4) s_2.1).bind
 fun r_16=>(m68 (r_14,r_16)).bind fun r_17=>((idxM s_2.2 s_1.1).bind fun (xs:List Int)=>chkM s_2.1 (lenM xs)).bind fun r_18=>(set2M s_2.2 s_1.1
 s_2.1 fun (x:Int)=>some (min r_10 r_17)).bind fun r=>some (Sum.inl (wrap IntKind.i64 (s_2.1+1),r)) else some (Sum.inr s_2.2)) (0,s_1.2)).bind fun o
 => some (Sum.inl (wrap IntKind.i64 (s_1.1+1),o)) else some (Sum.inr s_1.2)) (0,s.2)).bind fun o=>some (Sum.inl (wrap IntKind.i64 (s.1+1),o)) else
 some (Sum.inr s.2)) (0,o_1)).bind fun o_2=>(loopM (fun (s:Int)=>bif ltM s x.1 then (chkM s (lenM o_2)).bind fun r_1=>(chkM s (lenM o_2)).bind fun r_2
 => ((idxM o_2 s).bind fun (xs:List Int)=>chkM s (lenM xs)).bind fun r_3=>((idxM o_2 s).bind fun (xs:List Int)=>(idxM xs s).bind fun (x:Int) =>
 some x).bind fun r=>bif ltM r 0 then some (Sum.inr (Sum.inr false)) else some (Sum.inl (wrap IntKind.i64 (s+1))) else some (Sum.inr (Sum.inl ()))) 0).bind
 fun o=>Sum.elim (fun (t:Unit)=>some (o_2,true)) (fun (t:Bool)=>some ([],t)) o
theorem c66:SpecOK Tryz.prog 66 ⟨as66,rs66,m66⟩ :=
 fc (TabOK.drop tabs68OK [97]) [] an66 Tryz.f66 fun x=>by kernel_rfl
def tabs66:Tabs:=Tabs.add tabs68 66 ⟨as66,rs66,m66⟩
theorem tabs66OK:TabOK Tryz.prog tabs66:=TabOK.add tabs68OK c66 Tryz.call66

/-! putlog/between.Close -/
def as62:List Ty:=[(.pair tI (.list tB))]
def rs62:List Ty:=[(.list tL),tI]
def an62:Ann:=.a
def m62:(Int×List (Int×Int×Int))→Option (List (List Int)×Int) :=
 fun x=>(m65 (x.1,x.2)).bind fun r=>bif PE.notM r then some ([],90) else (m66 (x.1,x.2)).bind fun r=>bif PE.notM r.2 then some ([],90) else some (r.1,
 0)
theorem c62:SpecOK Tryz.prog 62 ⟨as62,rs62,m62⟩ :=
 fc tabs66OK [] an62 Tryz.f62 fun x=>by kernel_rfl
def tabs62:Tabs:=Tabs.add tabs66 62 ⟨as62,rs62,m62⟩
theorem tabs62OK:TabOK Tryz.prog tabs62:=TabOK.add tabs66OK c62 Tryz.call62

/-! putlog/network.apart -/
def as35:List Ty:=[(.pair tI (.pair (.list (.pair tI tB)) (.list tC))),tI,tI]
def rs35:List Ty:=[(.pair tI tB),tI]
def an35:Ann:=.seq (.a) (.seq (.a) (.seq (.a) (.seq (.a) (.seq (.a) (.seq (.reg [0,0,3,7,0,31,63,127,0,0,768,1792,0,7936,16128,0,0,98304,229376,0,1015808,2064384,4161536,0,0,25165824,58720256,0,260046848,528482304,1073741823,2147483647,4294967295] (ra 0 33 ([])) (za 31 (.s [1] [1]::z0::[])) (.a)) (.a))))))
def m35:((Int×(List (Int×Int×Int×Int))×List (Int×Int×Int×Int×Int))×Int×Int)→Option ((Int×Int×Int×Int)×Int) :=
 fun x=>(m36 (x.1.1,x.1.2.1,x.1.2.2)).bind fun r=>(m62 (r.1.1,r.1.2)).bind fun r_1=>(m62 (r.2.1,r.2.2)).bind fun r_2=>(bif PE.notM (PE.orM (PE.notM
 (eqM r_1.2 0)) (PE.notM (eqM r_2.2 0))) then idxM r_1.1 x.2.1 else some []).bind fun r_3=>(bif PE.notM (PE.orM (PE.notM (eqM r_1.2 0)) (PE.notM (eqM r_2.2
 0))) then idxM r_3 x.2.2 else some 0).bind fun r_4=>bif PE.orM (PE.orM (PE.notM (eqM r_1.2 0)) (PE.notM (eqM r_2.2 0))) (eqM r_4 1152921504606846976) then
 some ((0,0,0,0),100) else (idxM r_1.1 x.2.2).bind fun r_5=>(idxM r_5 x.2.1).bind fun r_6=>(idxM r_1.1 x.2.1).bind fun r_7=>(idxM r_7 x.2.2).bind fun
 r_8=>(idxM r_2.1 x.2.2).bind fun r_9=>(idxM r_9 x.2.1).bind fun r_10=>(idxM r_2.1 x.2.1).bind fun r_11=>(idxM r_11 x.2.2).bind fun r=>some ((wrap
 IntKind.i64 (negM r_6),r_8,wrap IntKind.i64 (negM r_10),r),0)
theorem c35:SpecOK Tryz.prog 35 ⟨as35,rs35,m35⟩ :=
 fc tabs62OK [] an35 Tryz.f35 fun x=>by kernel_rfl
def tabs35:Tabs:=Tabs.add tabs62 35 ⟨as35,rs35,m35⟩
theorem tabs35OK:TabOK Tryz.prog tabs35:=TabOK.add tabs62OK c35 Tryz.call35

/-! putlog/network.Box -/
def as13:List Ty:=[(.pair tI (.pair (.list (.pair tI tB)) (.list tC))),tI]
def rs13:List Ty:=[(.pair tI tB),tI]
def an13:Ann:=.a
def m13:((Int×(List (Int×Int×Int×Int))×List (Int×Int×Int×Int×Int))×Int)→Option ((Int×Int×Int×Int)×Int) :=
 fun x=>(m19 (x.1.1,x.1.2.1,x.1.2.2)).bind fun r=>(bif PE.notM (PE.notM r) then m34 (x.2,0,wrap IntKind.i64 (x.1.1-1)) else some false).bind fun r_1 =>
 bif PE.orM (PE.notM r) (PE.notM r_1) then some ((0,0,0,0),100) else (m35 ((x.1.1,x.1.2.1,x.1.2.2),x.1.1,x.2)).bind fun r=>some ((r.1.1,r.1.2.1,
 r.1.2.2.1,r.1.2.2.2),r.2)
theorem c13:SpecOK Tryz.prog 13 ⟨as13,rs13,m13⟩ :=
 fc tabs35OK [] an13 Tryz.f13 fun x=>by kernel_rfl
def tabs13:Tabs:=Tabs.add tabs35 13 ⟨as13,rs13,m13⟩
theorem tabs13OK:TabOK Tryz.prog tabs13:=TabOK.add tabs35OK c13 Tryz.call13

/-! putlog/network.Apart -/
def as14:List Ty:=[(.pair tI (.pair (.list (.pair tI tB)) (.list tC))),tI,tI]
def rs14:List Ty:=[(.pair tI tB),tI]
def an14:Ann:=.a
def m14:((Int×(List (Int×Int×Int×Int))×List (Int×Int×Int×Int×Int))×Int×Int)→Option ((Int×Int×Int×Int)×Int) :=
 fun x=>(m19 (x.1.1,x.1.2.1,x.1.2.2)).bind fun r=>(bif PE.notM (PE.notM r) then m34 (x.2.1,0,wrap IntKind.i64 (x.1.1-1)) else some false).bind fun r_1
 => (bif PE.notM (PE.orM (PE.notM r) (PE.notM r_1)) then m34 (x.2.2,0,wrap IntKind.i64 (x.1.1-1)) else some false).bind fun r_2=>bif PE.orM (PE.orM
 (PE.notM r) (PE.notM r_1)) (PE.notM r_2) then some ((0,0,0,0),100) else (m35 ((x.1.1,x.1.2.1,x.1.2.2),x.2.1,x.2.2)).bind fun r=>some ((r.1.1,
 r.1.2.1,r.1.2.2.1,r.1.2.2.2),r.2)
theorem c14:SpecOK Tryz.prog 14 ⟨as14,rs14,m14⟩ :=
 fc tabs13OK [] an14 Tryz.f14 fun x=>by kernel_rfl
def tabs14:Tabs:=Tabs.add tabs13 14 ⟨as14,rs14,m14⟩
theorem tabs14OK:TabOK Tryz.prog tabs14:=TabOK.add tabs13OK c14 Tryz.call14

/-! putlog/network.gcd -/
def as26:List Ty:=[tI,tI]
def rs26:List Ty:=[tI]
def an26:Ann:=.seq (.a) (.seq (.block (.loop ⟨[(0,.r (.c (.d (.d tI)))),(1,.r (.c (.d (.d tI))))],(ra 5 6 ([])),[],[]⟩ [(.exit 0,⟨[(0,.r (.c (.d (.d tI))))],(1::ra 5 6 ([])),[],[]⟩)] (.seq (.a) (.block (.reg [0,0,0,6,3,31] (ra 0 6 ([])) (za 6 ([])) (.a)))))) (.a))
def m26:(Int×Int)→Option (Int) :=
 fun x=>(loopM (fun (s:Int×Int)=>bif PE.notM (eqM s.2 0) then (remM s.1 s.2).bind fun r=>some (Sum.inl (s.2,r)) else some (Sum.inr s.1)) (x.1,
 x.2)).bind fun o=>some (max o (wrap IntKind.i64 (negM o)))
theorem c26:SpecOK Tryz.prog 26 ⟨as26,rs26,m26⟩ :=
 fc tabs14OK [] an26 Tryz.f26 fun x=>by kernel_rfl
def tabs26:Tabs:=Tabs.add tabs14 26 ⟨as26,rs26,m26⟩
theorem tabs26OK:TabOK Tryz.prog tabs26:=TabOK.add tabs14OK c26 Tryz.call26

/-! putlog/network.Least -/
def as6:List Ty:=[(.pair tI (.pair (.list (.pair tI tB)) (.list tC)))]
def rs6:List Ty:=[(.pair tL (.pair tL tI)),tI]
def an6:Ann:=.seq (.a) (.seq (.a) (.seq (.reg [] [] [.s [0] [],.r,z0] (.call [] [] (.seq (.a) (.seq (.a) (.seq (.a) (.seq (.seq (.reg [] [] [.s [2] [],.r] (.call [] [] (.seq (.a) (.a)) (.a))) (.block (.call [] [] (.seq (.seq (.a) (.block (.loop ⟨[(10,.r (.c (.d (.d tI))))],(4::ra 11 19 ([])),[(3,.flat 80 tI),(6,.lp .ready)],[]⟩ [(.exit 0,⟨[],(4::ra 10 20 ([])),[(3,.flat 80 tI),(6,.lp .ready)],[]⟩)] (.seq (.a) (.seq (.a) (.seq (.block (.seq (.a) (.seq (.reg [] [] [z0,z0,.s [7] [],z0,.s [7] [],z0,z0,.s [5] [],z0,.s [7] [],z0,.s [7] [],z0,.r,z0] (.call [] [] (.seq (.a) (.block (.seq (.reg [] [] [.s [4] [],z0,.s [8] [],z0,.s [8] [],z0,.s [8] [],.r] (.call [] [(.norm,⟨[(17,.t [])],[],[(3,.flat 80 tI)],[]⟩)] (.seq (.a) (.seq (.a) (.seq (.reg [0,0,1,7,15,31,1,127,255] (ra 0 9 ([])) [z0,z0,.s [3] [],.s [3] [],.s [3] [],z0,.s [3] [],.s [3] [],.s [3] [3]] (.a)) (.seq (.reg [0,1,3,7,0,16,63,1,255,511] (ra 0 10 ([])) [z0,.s [3] [],.s [3] [],.s [3] [],z0,.s [9] [],z0,.s [3] [],.s [3] [],.s [3] [3]] (.a)) (.seq (.reg [0,1,3,7,0,16,63,1,255,511] (ra 0 10 ([])) [z0,.s [3] [],.s [3] [],.s [3] [],z0,.s [9] [],z0,.s [3] [],.s [3] [],.s [3] [3]] (.a)) (.seq (.a) (.cond (.reg [0,0,1,7,15,31,1,127,255] (ra 0 9 ([])) [z0,z0,.s [3] [],.s [3] [],.s [3] [],z0,.s [3] [],.s [3] [],.s [3] [3]] (.a)) (.a)))))))) (.a))) (.reg [] [] [.s [4] [],z0,.s [8] [],z0,.s [8] [],z0,z0,.s [8] [],z0,z0,z0,.s [8] [],z0,z0,.r] (.call [] [(.norm,⟨[(32,.t [])],[],[(3,.flat 80 tI)],[]⟩)] (.seq (.a) (.seq (.a) (.seq (.reg [0,0,1,7,15,31,1,127,255] (ra 0 9 ([])) [z0,z0,.s [3] [],.s [3] [],.s [3] [],z0,.s [3] [],.s [3] [],.s [3] [3]] (.a)) (.seq (.reg [0,1,3,7,0,16,63,1,255,511] (ra 0 10 ([])) [z0,.s [3] [],.s [3] [],.s [3] [],z0,.s [9] [],z0,.s [3] [],.s [3] [],.s [3] [3]] (.a)) (.seq (.reg [0,1,3,7,0,16,63,1,255,511] (ra 0 10 ([])) [z0,.s [3] [],.s [3] [],.s [3] [],z0,.s [9] [],z0,.s [3] [],.s [3] [],.s [3] [3]] (.a)) (.seq (.a) (.cond (.reg [0,0,1,7,15,31,1,127,255] (ra 0 9 ([])) [z0,z0,.s [3] [],.s [3] [],.s [3] [],z0,.s [3] [],.s [3] [],.s [3] [3]] (.a)) (.a)))))))) (.a)))))) (.a))) (.a)))) (.a))))))) (.seq (.a) (.block (.loop ⟨[(33,.r (.c (.d (.d tI))))],(6::ra 34 19 ([])),[(3,.flat 80 tI),(6,.lp .ready)],[]⟩ [(.exit 2,⟨[],(6::ra 33 20 ([])),[(3,.flat 80 tI),(6,.lp .ready)],[]⟩)] (.seq (.a) (.seq (.a) (.seq (.block (.seq (.a) (.seq (.reg [] [] [z0,z0,.s [7] [],z0,.s [7] [],z0,z0,.s [7] [],z0,.s [7] [],z0,.s [7] [],z0,.r,z0] (.call [] [] (.seq (.a) (.block (.seq (.reg [] [] [.s [4] [],z0,.s [8] [],z0,.s [8] [],z0,.s [8] [],.r] (.call [] [(.norm,⟨[(17,.t [])],[],[(3,.flat 80 tI)],[]⟩)] (.seq (.a) (.seq (.a) (.seq (.reg [0,0,1,7,15,31,1,127,255] (ra 0 9 ([])) [z0,z0,.s [3] [],.s [3] [],.s [3] [],z0,.s [3] [],.s [3] [],.s [3] [3]] (.a)) (.seq (.reg [0,1,3,7,0,16,63,1,255,511] (ra 0 10 ([])) [z0,.s [3] [],.s [3] [],.s [3] [],z0,.s [9] [],z0,.s [3] [],.s [3] [],.s [3] [3]] (.a)) (.seq (.reg [0,1,3,7,0,16,63,1,255,511] (ra 0 10 ([])) [z0,.s [3] [],.s [3] [],.s [3] [],z0,.s [9] [],z0,.s [3] [],.s [3] [],.s [3] [3]] (.a)) (.seq (.a) (.cond (.reg [0,0,1,7,15,31,1,127,255] (ra 0 9 ([])) [z0,z0,.s [3] [],.s [3] [],.s [3] [],z0,.s [3] [],.s [3] [],.s [3] [3]] (.a)) (.a)))))))) (.a))) (.reg [] [] [.s [4] [],z0,.s [8] [],z0,.s [8] [],z0,z0,.s [8] [],z0,z0,z0,.s [8] [],z0,z0,.r] (.call [] [(.norm,⟨[(32,.t [])],[],[(3,.flat 80 tI)],[]⟩)] (.seq (.a) (.seq (.a) (.seq (.reg [0,0,1,7,15,31,1,127,255] (ra 0 9 ([])) [z0,z0,.s [3] [],.s [3] [],.s [3] [],z0,.s [3] [],.s [3] [],.s [3] [3]] (.a)) (.seq (.reg [0,1,3,7,0,16,63,1,255,511] (ra 0 10 ([])) [z0,.s [3] [],.s [3] [],.s [3] [],z0,.s [9] [],z0,.s [3] [],.s [3] [],.s [3] [3]] (.a)) (.seq (.reg [0,1,3,7,0,16,63,1,255,511] (ra 0 10 ([])) [z0,.s [3] [],.s [3] [],.s [3] [],z0,.s [9] [],z0,.s [3] [],.s [3] [],.s [3] [3]] (.a)) (.seq (.a) (.cond (.reg [0,0,1,7,15,31,1,127,255] (ra 0 9 ([])) [z0,z0,.s [3] [],.s [3] [],.s [3] [],z0,.s [3] [],.s [3] [],.s [3] [3]] (.a)) (.a)))))))) (.a)))))) (.a))) (.a)))) (.a)))))))) (.a)))) (.a))))) (.a))) (.seq (.reg [] [] [z0,z0,.s [0] [],.r,z0] (.call [] [(.norm,⟨[(19,.r (.c (.d (.d tI))))],[],[(3,.flat 80 tI)],[]⟩)] (.seq (.a) (.seq (.a) (.seq (.seq (.a) (.block (.loop ⟨[(5,.r (.c (.d (.d tI)))),(12,.r (.c (.d (.d tI))))],(6::7::8::9::10::ra 13 99 ([])),[(3,.flat 80 tI)],[]⟩ [(.exit 0,⟨[(5,.r (.c (.d (.d tI))))],(6::7::8::9::10::ra 12 100 ([])),[(3,.flat 80 tI)],[]⟩),(.ret,⟨[(4,.r (.c (.d (.d tI))))],(ra 5 6 (ra 12 100 ([]))),[(3,.flat 80 tI)],[]⟩)] (.seq (.a) (.seq (.a) (.seq (.block (.seq (.a) (.seq (.a) (.seq (.block (.loop ⟨[(7,.r (.c (.d (.d tI))))],(ra 16 15 ([])),[],[]⟩ [(.exit 2,⟨[(7,.r (.c (.d (.d tI))))],(ra 16 15 ([])),[],[]⟩)] (.a))) (.seq (.a) (.seq (.reg [0,0,0,0,0,0,16,112,240,0,0,512,3584,7680,1,32755,65523,4,262143,524287] (ra 0 20 ([])) (za 7 (.s [3] []::.s [3] []::za 3 (.s [3] []::.s [3] []::z0::.s [3] []::.s [3] [3]::z0::.s [3] []::.s [3] [3]::[]))) (.a)) (.seq (.seq (.a) (.block (.loop ⟨[(53,.r (.c (.d (.d tI))))],(8::9::10::ra 54 50 ([])),[(3,.flat 80 tI)],[]⟩ [(.exit 4,⟨[],(8::9::10::ra 53 51 ([])),[(3,.flat 80 tI)],[]⟩)] (.seq (.a) (.seq (.a) (.seq (.join [(.norm,⟨[],(8::9::10::ra 55 48 ([])),[(3,.flat 80 tI)],[]⟩)] (.block (.seq (.a) (.seq (.a) (.seq (.a) (.seq (.a) (.block (.loop ⟨[(66,.r (.c (.d (.d tI))))],(10::ra 67 36 ([])),[(3,.flat 80 tI)],[]⟩ [(.exit 6,⟨[],(10::ra 66 37 ([])),[(3,.flat 80 tI)],[]⟩)] (.seq (.a) (.seq (.a) (.seq (.block (.seq (.a) (.reg [0,0,0,0,0,0,8,88,248,504,0,0,0,1024,11264,31744,64512,131064,0,0,0,0,524288,5767168,16252928,33030144,66846720,134217720,0,536870904,1,1073741827,4294967295,8589934591] (ra 0 34 ([])) (za 7 (.s [3] []::.s [3] []::.s [3] []::za 4 (.s [3] []::.s [3] []::.s [3] []::za 6 (.s [3] []::.s [3] []::.s [3] []::za 5 (.s [3] []::.s [3] []::.s [3] [3]::[]))))) (.a)))) (.a)))))))))))) (.a))))))) (.a)))))))) (.a))))))) (.a)))) (.a))) (.seq (.a) (.seq (.a) (.seq (.a) (.seq (.seq (.a) (.block (.loop ⟨[(7,.r (.c (.d (.d tI)))),(28,.r (.c (.d (.d tI))))],(8::ra 29 38 ([])),[(7,.box [.h 8,.h 9,.d (.d tI)])],[.arr tI,.arr tI]⟩ [(.exit 0,⟨[(7,.r (.c (.d (.d tI))))],(8::ra 28 39 ([])),[(7,.box [.h 8,.h 9,.d (.d tI)])],[.arr tI,.arr tI]⟩)] (.seq (.a) (.seq (.a) (.seq (.block (.seq (.a) (.seq (.reg [0,1,0,0,4,28,60,124,252,511,1023,2047] (ra 0 12 ([])) (z0::.s [7] []::za 3 (.s [3] []::.s [3] []::.s [3] []::z0::.s [8] [10,8]::z0::.s [7,10] [7]::[])) (.a)) (.seq (.reg [0,1,0,0,4,28,60,124,252,511,1023,2047] (ra 0 12 ([])) (z0::.s [7] []::za 3 (.s [3] []::.s [3] []::.s [3] []::z0::.s [9] [11,9]::z0::.s [7,11] [7]::[])) (.a)) (.reg [0,0,2,0,14,30,63,0,128,0,896,1920,4095,8191] (ra 0 14 ([])) [z0,z0,.s [7] [],z0,.s [10] [],.s [10] [],z0,z0,.s [7] [],z0,.s [11] [],.s [11] [],z0,z0] (.a)))))) (.a))))))) (.seq (.join [(.norm,⟨[(7,.r (.c (.d (.d tI))))],[67,68,69,70],[],[]⟩)] (.a)) (.seq (.a) (.seq (.seq (.a) (.block (.loop ⟨[(78,.r (.c (.d (.d tI))))],(9::ra 79 19 ([])),[(8,.arr tI),(9,.arr tI)],[]⟩ [(.exit 2,⟨[],(9::ra 78 20 ([])),[(8,.arr tI),(9,.arr tI)],[]⟩)] (.a)))) (.a)))))))))))
def m6:(Int×(List (Int×Int×Int×Int))×List (Int×Int×Int×Int×Int))→Option ((List Int×List Int×Int)×Int) :=
 fun x=>(m19 (x.1,x.2.1,x.2.2)).bind fun r=>bif PE.notM r then some (([],[],0),100) else (loopM (fun (s:Int×List Int)=>bif ltM s.1 (lenM x.2.1)
 then (idxM x.2.1 s.1).bind fun r_1=>(bif eqM r_1.1 x.1 then some s.2 else (chkM r_1.1 ↑(nat_lit 8)).bind fun r_2=>(chkM r_1.1 ↑(nat_lit 10)).bind fun r_3
 => (idxM s.2 (↑(nat_lit 0)+r_1.1*↑(nat_lit 10)+r_1.1*↑(nat_lit 1))).bind fun r_4=>(chkM r_1.1 ↑(nat_lit 8)).bind fun r_5=>(chkM r_1.1 ↑(nat_lit
 10)).bind fun r_6=>(setM s.2 (↑(nat_lit 0)+r_1.1*↑(nat_lit 10)+r_1.1*↑(nat_lit 1)) fun (x:Int)=>some (wrap IntKind.i64 (r_4+1))).bind fun r_7
 => (chkM r_1.1 ↑(nat_lit 8)).bind fun r_8=>(idxM r_7 (↑(nat_lit 0)+r_1.1*↑(nat_lit 10)+8)).bind fun r_9=>(chkM r_1.1 ↑(nat_lit 8)).bind fun r_10 =>
 (setM r_7 (↑(nat_lit 0)+r_1.1*↑(nat_lit 10)+8) fun (x:Int)=>some (wrap IntKind.i64 (r_9+r_1.2.1))).bind fun r_11=>(chkM r_1.1 ↑(nat_lit 8)).bind
 fun r_12=>(idxM r_11 (↑(nat_lit 0)+r_1.1*↑(nat_lit 10)+9)).bind fun r_13=>(chkM r_1.1 ↑(nat_lit 8)).bind fun r_14=>(setM r_11 (↑(nat_lit 0) +
 r_1.1*↑(nat_lit 10)+9) fun (x:Int)=>some (wrap IntKind.i64 (r_13+r_1.2.2.1))).bind fun r_15=>bif ltM x.1 x.1 then (chkM r_1.1 ↑(nat_lit 8)).bind
 fun r_16=>(chkM x.1 ↑(nat_lit 10)).bind fun r_17=>(idxM r_15 (↑(nat_lit 0)+r_1.1*↑(nat_lit 10)+x.1*↑(nat_lit 1))).bind fun r_18=>(chkM r_1.1
 ↑(nat_lit 8)).bind fun r_19=>(chkM x.1 ↑(nat_lit 10)).bind fun r_20=>(setM r_15 (↑(nat_lit 0)+r_1.1*↑(nat_lit 10)+x.1*↑(nat_lit 1)) fun (x:Int)
 => some (wrap IntKind.i64 (r_18-1))).bind fun r=>some r else some r_15).bind fun (ov:List Int)=>(bif eqM x.1 x.1 then some ov else (chkM x.1 ↑(nat_lit
 8)).bind fun r_2=>(chkM x.1 ↑(nat_lit 10)).bind fun r_3=>(idxM ov (↑(nat_lit 0)+x.1*↑(nat_lit 10)+x.1*↑(nat_lit 1))).bind fun r_4=>(chkM x.1
 ↑(nat_lit 8)).bind fun r_5=>(chkM x.1 ↑(nat_lit 10)).bind fun r_6=>(setM ov (↑(nat_lit 0)+x.1*↑(nat_lit 10)+x.1*↑(nat_lit 1)) fun (x:Int) =>
 some (wrap IntKind.i64 (r_4+1))).bind fun r_7=>(chkM x.1 ↑(nat_lit 8)).bind fun r_8=>(idxM r_7 (↑(nat_lit 0)+x.1*↑(nat_lit 10)+8)).bind fun r_9 =>
 (chkM x.1 ↑(nat_lit 8)).bind fun r_10=>(setM r_7 (↑(nat_lit 0)+x.1*↑(nat_lit 10)+8) fun (x:Int)=>some (wrap IntKind.i64 (r_9+wrap IntKind.i64
 (negM r_1.2.1)))).bind fun r_11=>(chkM x.1 ↑(nat_lit 8)).bind fun r_12=>(idxM r_11 (↑(nat_lit 0)+x.1*↑(nat_lit 10)+9)).bind fun r_13=>(chkM x.1
 ↑(nat_lit 8)).bind fun r_14=>(setM r_11 (↑(nat_lit 0)+x.1*↑(nat_lit 10)+9) fun (x:Int)=>some (wrap IntKind.i64 (r_13+wrap IntKind.i64 (negM
 r_1.2.2.1)))).bind fun r_15=>bif ltM r_1.1 x.1 then (chkM x.1 ↑(nat_lit 8)).bind fun r_16=>(chkM r_1.1 ↑(nat_lit 10)).bind fun r_17=>(idxM r_15
 (↑(nat_lit 0)+x.1*↑(nat_lit 10)+r_1.1*↑(nat_lit 1))).bind fun r_18=>(chkM x.1 ↑(nat_lit 8)).bind fun r_19=>(chkM r_1.1 ↑(nat_lit 10)).bind fun
 r_20=>(setM r_15 (↑(nat_lit 0)+x.1*↑(nat_lit 10)+r_1.1*↑(nat_lit 1)) fun (x:Int)=>some (wrap IntKind.i64 (r_18-1))).bind fun r=>some r else
 some r_15).bind fun (ov:List Int)=>some (Sum.inl (wrap IntKind.i64 (s.1+1),ov)) else some (Sum.inr s.2)) (0,[0,0,0,0,0,0,0,0,0,0,0,0,0,0,
 0,0,0,0,0,0,0,0,0,0,0,0,0,0,0,0,0,0,0,0,0,0,0,0,0,0,0,0,0,0,0,0,0,0,0,0,0,0,0,0,0,0,0,0,0,0,0,0,0,0,0,0,0,
 0,0,0,0,0,0,0,0,0,0,0,0,0])).bind fun o=>(loopM (fun (s:Int×List Int)=>bif ltM s.1 (lenM x.2.2) then (idxM x.2.2 s.1).bind fun r_1=>(bif
 eqM r_1.2.1 x.1 then some s.2 else (chkM r_1.2.1 ↑(nat_lit 8)).bind fun r_2=>(chkM r_1.2.1 ↑(nat_lit 10)).bind fun r_3=>(idxM s.2 (↑(nat_lit 0)+r_1.2.1
 * ↑(nat_lit 10)+r_1.2.1*↑(nat_lit 1))).bind fun r_4=>(chkM r_1.2.1 ↑(nat_lit 8)).bind fun r_5=>(chkM r_1.2.1 ↑(nat_lit 10)).bind fun r_6=>(setM s.2
 (↑(nat_lit 0)+r_1.2.1*↑(nat_lit 10)+r_1.2.1*↑(nat_lit 1)) fun (x:Int)=>some (wrap IntKind.i64 (r_4+1))).bind fun r_7=>(chkM r_1.2.1 ↑(nat_lit
 8)).bind fun r_8=>(idxM r_7 (↑(nat_lit 0)+r_1.2.1*↑(nat_lit 10)+8)).bind fun r_9=>(chkM r_1.2.1 ↑(nat_lit 8)).bind fun r_10=>(setM r_7 (↑(nat_lit
 0)+r_1.2.1*↑(nat_lit 10)+8) fun (x:Int)=>some (wrap IntKind.i64 (r_9+r_1.2.2.1))).bind fun r_11=>(chkM r_1.2.1 ↑(nat_lit 8)).bind fun r_12 =>
 (idxM r_11 (↑(nat_lit 0)+r_1.2.1*↑(nat_lit 10)+9)).bind fun r_13=>(chkM r_1.2.1 ↑(nat_lit 8)).bind fun r_14=>(setM r_11 (↑(nat_lit 0)+r_1.2.1 *
 ↑(nat_lit 10)+9) fun (x:Int)=>some (wrap IntKind.i64 (r_13+r_1.2.2.2.1))).bind fun r_15=>bif ltM r_1.1 x.1 then (chkM r_1.2.1 ↑(nat_lit 8)).bind fun
 r_16=>(chkM r_1.1 ↑(nat_lit 10)).bind fun r_17=>(idxM r_15 (↑(nat_lit 0)+r_1.2.1*↑(nat_lit 10)+r_1.1*↑(nat_lit 1))).bind fun r_18=>(chkM r_1.2.1
 ↑(nat_lit 8)).bind fun r_19=>(chkM r_1.1 ↑(nat_lit 10)).bind fun r_20=>(setM r_15 (↑(nat_lit 0)+r_1.2.1*↑(nat_lit 10)+r_1.1*↑(nat_lit 1)) fun (x :
 Int)=>some (wrap IntKind.i64 (r_18-1))).bind fun r=>some r else some r_15).bind fun (ov:List Int)=>(bif eqM r_1.1 x.1 then some ov else (chkM r_1.1
 ↑(nat_lit 8)).bind fun r_2=>(chkM r_1.1 ↑(nat_lit 10)).bind fun r_3=>(idxM ov (↑(nat_lit 0)+r_1.1*↑(nat_lit 10)+r_1.1*↑(nat_lit 1))).bind fun r_4
 => (chkM r_1.1 ↑(nat_lit 8)).bind fun r_5=>(chkM r_1.1 ↑(nat_lit 10)).bind fun r_6=>(setM ov (↑(nat_lit 0)+r_1.1*↑(nat_lit 10)+r_1.1*↑(nat_lit 1))
 fun (x:Int)=>some (wrap IntKind.i64 (r_4+1))).bind fun r_7=>(chkM r_1.1 ↑(nat_lit 8)).bind fun r_8=>(idxM r_7 (↑(nat_lit 0)+r_1.1*↑(nat_lit 10)
 + 8)).bind fun r_9=>(chkM r_1.1 ↑(nat_lit 8)).bind fun r_10=>(setM r_7 (↑(nat_lit 0)+r_1.1*↑(nat_lit 10)+8) fun (x:Int)=>some (wrap IntKind.i64
 (r_9+wrap IntKind.i64 (negM r_1.2.2.1)))).bind fun r_11=>(chkM r_1.1 ↑(nat_lit 8)).bind fun r_12=>(idxM r_11 (↑(nat_lit 0)+r_1.1*↑(nat_lit 10) +
 9)).bind fun r_13=>(chkM r_1.1 ↑(nat_lit 8)).bind fun r_14=>(setM r_11 (↑(nat_lit 0)+r_1.1*↑(nat_lit 10)+9) fun (x:Int)=>some (wrap IntKind.i64
 (r_13+wrap IntKind.i64 (negM r_1.2.2.2.1)))).bind fun r_15=>bif ltM r_1.2.1 x.1 then (chkM r_1.1 ↑(nat_lit 8)).bind fun r_16=>(chkM r_1.2.1 ↑(nat_lit
 10)).bind fun r_17=>(idxM r_15 (↑(nat_lit 0)+r_1.1*↑(nat_lit 10)+r_1.2.1*↑(nat_lit 1))).bind fun r_18=>(chkM r_1.1 ↑(nat_lit 8)).bind fun r_19 =>
 (chkM r_1.2.1 ↑(nat_lit 10)).bind fun r_20=>(setM r_15 (↑(nat_lit 0)+r_1.1*↑(nat_lit 10)+r_1.2.1*↑(nat_lit 1)) fun (x:Int)=>some (wrap
 IntKind.i64 (r_18-1))).bind fun r=>some r else some r_15).bind fun (ov:List Int)=>some (Sum.inl (wrap IntKind.i64 (s.1+1),ov)) else some (Sum.inr
 s.2)) (0,o)).bind fun o_1=>((loopM (fun (s:Int×Int×List Int)=>bif ltM s.2.1 x.1 then (loopM (fun (s_1:Int)=>(bif ltM s_1 x.1 then chkM s_1
 ↑(nat_lit 8) else some ()).bind fun r_1=>(bif ltM s_1 x.1 then chkM s.2.1 ↑(nat_lit 10) else some ()).bind fun r_2=>(bif ltM s_1 x.1 then idxM s.2.2
 (↑(nat_lit 0)+s_1*↑(nat_lit 10)+s.2.1*↑(nat_lit 1)) else some 0).bind fun r=>bif PE.andM (ltM s_1 x.1) (eqM r 0) then some (Sum.inl (wrap
 IntKind.i64 (s_1+1))) else some (Sum.inr s_1)) s.2.1).bind fun o_2=>bif eqM o_2 x.1 then some (Sum.inr (Sum.inr (0,s.2.2))) else (chkM s.2.1 ↑(nat_lit
 8)).bind fun r_1=>(sliceM s.2.2 (↑(nat_lit 0)+s.2.1*↑(nat_lit 10)) (↑(nat_lit 0)+s.2.1*↑(nat_lit 10)+↑(nat_lit 10))).bind fun r_2=>(chkM o_2
 ↑(nat_lit 8)).bind fun r_3=>(sliceM s.2.2 (↑(nat_lit 0)+o_2*↑(nat_lit 10)) (↑(nat_lit 0)+o_2*↑(nat_lit 10)+↑(nat_lit 10))).bind fun r_4=>(chkM
 o_2 ↑(nat_lit 8)).bind fun r_5=>(putM s.2.2 (↑(nat_lit 0)+o_2*↑(nat_lit 10)) [nthD r_2 (nat_lit 0) 0,nthD r_2 (nat_lit 1) 0,nthD r_2 (nat_lit 2) 0,
 nthD r_2 (nat_lit 3) 0,nthD r_2 (nat_lit 4) 0,nthD r_2 (nat_lit 5) 0,nthD r_2 (nat_lit 6) 0,nthD r_2 (nat_lit 7) 0,nthD r_2 (nat_lit 8) 0,nthD r_2
 (nat_lit 9) 0]).bind fun r_6=>(chkM s.2.1 ↑(nat_lit 8)).bind fun r_7=>(putM r_6 (↑(nat_lit 0)+s.2.1*↑(nat_lit 10)) [nthD r_4 (nat_lit 0) 0,nthD r_4
 (nat_lit 1) 0,nthD r_4 (nat_lit 2) 0,nthD r_4 (nat_lit 3) 0,nthD r_4 (nat_lit 4) 0,nthD r_4 (nat_lit 5) 0,nthD r_4 (nat_lit 6) 0,nthD r_4 (nat_lit 7) 0,
 nthD r_4 (nat_lit 8) 0,nthD r_4 (nat_lit 9) 0]).bind fun r_8=>(loopM (fun (s_1:Int×List Int)=>bif ltM s_1.1 x.1 then (bif eqM s_1.1 s.2.1 then some
 s_1.2 else (chkM s_1.1 ↑(nat_lit 8)).bind fun r_9=>(chkM s.2.1 ↑(nat_lit 10)).bind fun r_10=>(idxM s_1.2 (↑(nat_lit 0)+s_1.1*↑(nat_lit 10)+s.2.1 *
 ↑(nat_lit 1))).bind fun r_11=>(loopM (fun (s_2:Int×List Int)=>bif ltM s_2.1 10 then (chkM s_1.1 ↑(nat_lit 8)).bind fun r_12=>(chkM s_2.1 ↑(nat_lit
 10)).bind fun r_13=>(idxM s_2.2 (↑(nat_lit 0)+s_1.1*↑(nat_lit 10)+s_2.1*↑(nat_lit 1))).bind fun r_14=>(chkM s.2.1 ↑(nat_lit 8)).bind fun r_15 =>
 (chkM s.2.1 ↑(nat_lit 10)).bind fun r_16=>(idxM s_2.2 (↑(nat_lit 0)+s.2.1*↑(nat_lit 10)+s.2.1*↑(nat_lit 1))).bind fun r_17=>(chkM s.2.1 ↑(nat_lit
 8)).bind fun r_18=>(chkM s_2.1 ↑(nat_lit 10)).bind fun r_19=>(idxM s_2.2 (↑(nat_lit 0)+s.2.1*↑(nat_lit 10)+s_2.1*↑(nat_lit 1))).bind fun r_20 =>
 (divM IntKind.i64 (wrap IntKind.i64 (wrap IntKind.i64 (r_14*r_17)-wrap IntKind.i64 (r_11*r_20))) s.1).bind fun r_21=>(chkM s_1.1 ↑(nat_lit 8)).bind
 fun r_22=>(chkM s_2.1 ↑(nat_lit 10)).bind fun r_23=>(setM s_2.2 (↑(nat_lit 0)+s_1.1*↑(nat_lit 10)+s_2.1*↑(nat_lit 1)) fun (x:Int)=>some
 r_21).bind fun r=>some (Sum.inl (wrap IntKind.i64 (s_2.1+1),r)) else some (Sum.inr s_2.2)) (0,s_1.2)).bind fun o=>some o).bind fun o=>some (Sum.inl
 (wrap IntKind.i64 (s_1.1+1),o)) else some (Sum.inr s_1.2)) (0,r_8)).bind fun o_3=>(chkM s.2.1 ↑(nat_lit 8)).bind fun r_9=>(chkM s.2.1 ↑(nat_lit
 10)).bind fun r_10=>(idxM o_3 (↑(nat_lit 0)+s.2.1*↑(nat_lit 10)+s.2.1*↑(nat_lit 1))).bind fun r=>some (Sum.inl (r,wrap IntKind.i64 (s.2.1+1),
 o_3)) else some (Sum.inr (Sum.inl (s.1,s.2.2)))) (1,0,o_1)).bind fun o=>Sum.elim (fun (t:Int×List Int)=>some (t.1,t.2)) (fun (t:Int×List Int)
 => some (t.1,t.2)) o).bind fun (ov:Int×List Int)=>bif eqM ov.1 0 then some (([],[],0),100) else (loopM (fun (s:Int×Int×Int×List Int×List
 Int)=>bif ltM s.2.1 x.1 then (chkM s.2.1 ↑(nat_lit 8)).bind fun r_1=>(idxM ov.2 (↑(nat_lit 0)+s.2.1*↑(nat_lit 10)+8)).bind fun r_2=>(appM (nat_lit
 8) s.2.2.2.1 [r_2]).bind fun r_3=>(chkM s.2.1 ↑(nat_lit 8)).bind fun r_4=>(idxM ov.2 (↑(nat_lit 0)+s.2.1*↑(nat_lit 10)+9)).bind fun r_5=>(appM
 (nat_lit 8) s.2.2.2.2 [r_5]).bind fun r_6=>(chkM s.2.1 (lenM r_3)).bind fun r_7=>(idxM r_3 s.2.1).bind fun r_8=>(m26 (s.1,r_8)).bind fun r_9=>(chkM
 s.2.1 (lenM r_6)).bind fun r_10=>(idxM r_6 s.2.1).bind fun r_11=>(m26 (r_9,r_11)).bind fun r=>some (Sum.inl (r,wrap IntKind.i64 (s.2.1+1),s.2.2.1,
 r_3,r_6)) else some (Sum.inr (s.1,s.2.2.1,s.2.2.2.1,s.2.2.2.2))) (ov.1,0,ov.1,[],[])).bind fun o_2=>(bif ltM ov.1 0 then some (wrap IntKind.i64
 (negM o_2.1)) else some o_2.1).bind fun o_3=>(divM IntKind.i64 o_2.2.1 o_3).bind fun r_1=>(loopM (fun (s:Int×List Int×List Int)=>bif ltM s.1 x.1
 then (chkM s.1 (lenM s.2.1)).bind fun r_2=>(idxM s.2.1 s.1).bind fun r_3=>(divM IntKind.i64 r_3 o_3).bind fun r_4=>(chkM s.1 (lenM s.2.1)).bind fun r_5
 => (setM s.2.1 s.1 fun (x:Int)=>some r_4).bind fun r_6=>(chkM s.1 (lenM s.2.2)).bind fun r_7=>(idxM s.2.2 s.1).bind fun r_8=>(divM IntKind.i64 r_8
 o_3).bind fun r_9=>(chkM s.1 (lenM s.2.2)).bind fun r_10=>(setM s.2.2 s.1 fun (x:Int)=>some r_9).bind fun r=>some (Sum.inl (wrap IntKind.i64 (s.1 +
 1),r_6,r)) else some (Sum.inr (s.2.1,s.2.2))) (0,o_2.2.2.1,o_2.2.2.2)).bind fun o=>some ((o.1,o.2,r_1),0)
theorem c6:SpecOK Tryz.prog 6 ⟨as6,rs6,m6⟩ :=
 fc tabs26OK [] an6 Tryz.f6 fun x=>by kernel_rfl
def tabs6:Tabs:=Tabs.add tabs26 6 ⟨as6,rs6,m6⟩
theorem tabs6OK:TabOK Tryz.prog tabs6:=TabOK.add tabs26OK c6 Tryz.call6
end
end Go.Proofs.YthdfmkpebafpoaaGreatDoor
namespace Go.Proofs.YthdfmkpebafpoaaGreatDoor
open Go Go.Abs Go.PE Go.Proofs
open Go.IntKind (wrap)
set_option maxRecDepth 100000
noncomputable section

/-! putlog/between.walks$1$1 -/
def as100:List Ty:=[tI,tI]
def rs100:List Ty:=[tI]
def an100:Ann:=.a
def m100:(Int×Int)→Option (Int) :=
 fun x=>some 1152921504606846976
theorem c100:SpecOK Tryz.prog 100 ⟨as100,rs100,m100⟩ :=
 fc tabs6OK [] an100 Tryz.f100 fun x=>by kernel_rfl
def tabs100:Tabs:=Tabs.add tabs6 100 ⟨as100,rs100,m100⟩
theorem tabs100OK:TabOK Tryz.prog tabs100:=TabOK.add tabs6OK c100 Tryz.call100

/-! putlog/between.chain -/
def as69:List Ty:=[(.pair tI (.list tB)),(.list (.list tL)),tI,tI,tI,tI]
def rs69:List Ty:=[tL]
def an69:Ann:=.seq (.a) (.seq (.a) (.seq (.block (.loop ⟨[(13,.r (.c (.h 6)))],(ra 14 27 ([])),[(2,.box [.d (.d tI)]),(4,.box [.d (.d tI)]),(5,.box [.d (.d tI)])],[.arr tI]⟩ [(.exit 0,⟨[(13,.r (.c (.h 6)))],(ra 14 27 ([])),[(2,.box [.d (.d tI)]),(4,.box [.d (.d tI)]),(5,.box [.d (.d tI)])],[.arr tI]⟩)] (.seq (.a) (.seq (.block (.seq (.reg [] [] [z0,.s [0] [],z0,.r,z0] (.call [] [(.norm,⟨[(22,.r (.c (.d (.d tI))))],[],[],[]⟩)] (.seq (.a) (.seq (.seq (.a) (.block (.loop ⟨[(8,.r (.c (.d (.d tI))))],(5::ra 9 8 (18::[])),[],[]⟩ [(.exit 0,⟨[],(5::ra 8 9 (18::[])),[],[]⟩),(.ret,⟨[(4,.r (.c (.d (.d tI))))],(5::ra 8 11 ([])),[],[]⟩)] (.seq (.a) (.seq (.a) (.seq (.block (.seq (.a) (.seq (.reg [] [] [z0,z0,z0,z0,z0,.r] (.call [] [] (.seq (.a) (.seq (.reg [0,1,0,7,15,31,63,31,31,287,927,1951,31,4127,16287,32671,31,130975,262047,524287,31,2097151,4194303,8388607] (ra 0 24 ([])) (z0::.s [7] []::.s [2] []::za 3 (.s [7] []::.s [1] []::.s [4] []::za 4 (.s [7] []::z0::z0::.s [3] []::za 3 (.s [5] []::za 3 ([]))))) (.a)) (.a))) (.a))) (.a)))) (.a))))))) (.a))) (.a))) (.seq (.reg [0,1,0,7,15,31,0,0,128,0,896,1920,3968,8128,63,32767] (ra 0 16 ([])) (z0::.s [0] []::za 4 (.s [5] []::z0::.s [0] []::za 5 (.s [2] [2]::.s [5] [5]::[]))) (.a)) (.a)))) (.a))))) (.a)))
def m69:((Int×List (Int×Int×Int))×List (List (List Int))×Int×Int×Int×Int)→Option (List Int) :=
 fun x=>(loopM (fun (s:Int×Int×Int×List Int)=>bif ltM 0 s.2.1 then ((loopM (fun (s_1:Int)=>bif ltM s_1 (lenM x.1.2) then (idxM x.1.2 s_1).bind
 fun r=>(bif eqM r.1 s.1 then idxM x.2.1 (wrap IntKind.i64 (s.2.1-1)) else some []).bind fun r_1=>(bif eqM r.1 s.1 then idxM r_1 r.2.1 else some []).bind
 fun r_2=>(bif eqM r.1 s.1 then idxM r_2 x.2.2.2.1 else some 0).bind fun r_3=>(bif eqM r.1 s.1 then m68 (r.2.2,r_3) else some 0).bind fun r_4=>bif
 PE.andM (eqM r.1 s.1) (leM r_4 s.2.2.1) then some (Sum.inr (Sum.inr s_1)) else some (Sum.inl (wrap IntKind.i64 (s_1+1))) else some (Sum.inr (Sum.inl ())))
 0).bind fun o=>Sum.elim (fun (t:Unit)=>some (-1)) (fun (t:Int)=>some t) o).bind fun (ov:Int)=>(idxM x.1.2 ov).bind fun r=>(idxM x.1.2 ov).bind
 fun r_1=>(appM (nat_lit 8) s.2.2.2 [ov]).bind fun r_2=>some (Sum.inl (r.2.1,wrap IntKind.i64 (s.2.1-1),wrap IntKind.i64 (s.2.2.1-r_1.2.2),r_2))
 else some (Sum.inr (s.1,s.2.1,s.2.2.1,s.2.2.2))) (x.2.2.1,x.2.2.2.2.1,x.2.2.2.2.2,[])).bind fun o=>some o.2.2.2
theorem c69:SpecOK Tryz.prog 69 ⟨as69,rs69,m69⟩ :=
 fc tabs100OK [] an69 Tryz.f69 fun x=>by kernel_rfl
def tabs69:Tabs:=Tabs.add tabs100 69 ⟨as69,rs69,m69⟩
theorem tabs69OK:TabOK Tryz.prog tabs69:=TabOK.add tabs100OK c69 Tryz.call69

/-! putlog/between.Cycle -/
def as37:List Ty:=[(.pair tI (.list tB))]
def rs37:List Ty:=[tL,.bool]
def an37:Ann:=.seq (.a) (.seq (.a) (.seq (.a) (.seq (.a) (.seq (.seq (.reg [] [] [.s [0] [],.r] (.call [] [] (.seq (.a) (.a)) (.a))) (.block (.call [] [] (.seq (.a) (.block (.loop ⟨[(3,.r (.c (.d (.d (.list tL)))))],(4::6::7::ra 11 48 ([])),[(3,.box [.h 6]),(5,.lp .ready)],[.arr (.list tL)]⟩ [(.exit 0,⟨[],(3::4::6::7::ra 11 48 ([])),[(1,.box [.d (.d tL)]),(2,.box [.d (.d .bool)]),(3,.box [.d (.d (.list (.list tL)))]),(5,.lp (.done .ret))],[]⟩)] (.seq (.seq (.reg [] [] [z0,z0,.r] (.call [] [] (.seq (.a) (.block (.seq (.a) (.seq (.a) (.seq (.a) (.block (.loop ⟨[(33,.r (.c (.d (.d tI))))],(9::10::ra 34 25 (74::[])),[],[]⟩ [(.exit 2,⟨[],(9::10::ra 33 26 (74::[])),[],[]⟩),(.ret,⟨[],(9::10::ra 33 42 ([])),[(1,.box [.d (.d tL)]),(2,.box [.d (.d .bool)]),(7,.frz (.list tL))],[]⟩)] (.seq (.a) (.seq (.a) (.seq (.block (.seq (.a) (.seq (.reg [0,1,3,7,15,7,7,71,231,487,7,1031,4071,8167,7,16391,65511,131047,262143,524287,1048575] (ra 0 21 ([])) (za 4 (.s [8] []::.s [3] []::z0::z0::.s [7] []::.s [7] []::z0::.s [8] []::za 3 (.s [8] []::za 5 ([])))) (.a)) (.a)))) (.a))))))))))) (.a))) (.a)) (.block (.seq (.reg [] [] [z0,.s [4] [],.r,z0] (.call [9] [] (.seq (.a) (.seq (.a) (.seq (.seq (.a) (.block (.loop ⟨[(11,.r (.c (.d (.d tI))))],(6::7::ra 12 21 ([])),[(8,.tab tI 10),(9,.gone)],[.us]⟩ [(.exit 0,⟨[],(6::7::ra 11 22 ([])),[(8,.tab tI 10),(9,.gone)],[.us]⟩)] (.seq (.a) (.seq (.a) (.seq (.block (.seq (.a) (.seq (.a) (.block (.loop ⟨[(15,.r (.c (.d (.d tI))))],(7::ra 16 16 ([])),[(8,.tab tI 11),(10,.gone)],[.us]⟩ [(.exit 2,⟨[],(7::ra 15 17 ([])),[(8,.tab tI 11),(10,.gone)],[.us]⟩)] (.seq (.a) (.seq (.a) (.seq (.block (.seq (.a) (.reg [0,0,0,0,12,28,0,0,0,448,960,2044,4095,8191] (ra 0 14 ([])) (za 4 (.s [8] []::.s [8] []::za 5 (.s [8] [8]::.s [8] []::.s [8,8] [8]::[]))) (.a)))) (.a))))))))) (.a))))))) (.a)))) (.a))) (.seq (.seq (.a) (.block (.loop ⟨[(20,.r (.c (.d (.d tI))))],(6::7::ra 21 37 ([])),[(8,.tab tI 10)],[]⟩ [(.exit 2,⟨[],(6::7::ra 20 38 ([])),[(8,.tab tI 10)],[]⟩)] (.seq (.a) (.seq (.a) (.seq (.block (.seq (.a) (.seq (.a) (.block (.loop ⟨[(26,.r (.c (.d (.d tI))))],(7::ra 27 30 ([])),[(8,.tab tI 10)],[]⟩ [(.exit 4,⟨[],(7::ra 26 31 ([])),[(8,.tab tI 10)],[]⟩)] (.seq (.a) (.seq (.a) (.seq (.block (.seq (.a) (.reg [0,0,3,7,0,16,0,0,192,448,0,1024,4032,8128,0,0,49152,114688,0,262144,1032192,2080768,0,4194304,16760832,33554368,67108863,134217727] (ra 0 28 ([])) (z0::z0::.s [8] []::.s [8] []::z0::.s [11] []::z0::z0::.s [8] []::.s [8] []::z0::.s [11] []::.s [8] []::.s [8] []::za 5 (.s [11] []::za 3 (.s [11] []::z0::z0::.s [8] []::.s [8] [8]::[]))) (.a)))) (.a))))))))) (.a))))))) (.a)))))))) (.a)))) (.a)))))
def m37:(Int×List (Int×Int×Int))→Option (List Int×Bool) :=
 fun x=>(m65 (x.1,x.2)).bind fun r=>bif PE.notM r then some ([],false) else (m66 (x.1,x.2)).bind fun r_1=>bif r_1.2 then some ([],false) else (m97
 x.1).bind fun r_2=>(loopM (fun (s:List (List Int)×List (List (List Int)))=>(appM (nat_lit 24) s.2 [s.1]).bind fun r_3=>(loopM (fun (s_1:Int) =>
 bif ltM s_1 (lenM x.2) then (idxM x.2 s_1).bind fun r_4=>(bif ltM 0 (wrap IntKind.i64 (lenM r_3-1)) then chkM (wrap IntKind.i64 (wrap IntKind.i64 (lenM
 r_3-1)-1)) (lenM r_3) else some ()).bind fun r_5=>(bif ltM 0 (wrap IntKind.i64 (lenM r_3-1)) then idxM r_3 (wrap IntKind.i64 (wrap IntKind.i64 (lenM
 r_3-1)-1)) else some []).bind fun r_6=>(bif ltM 0 (wrap IntKind.i64 (lenM r_3-1)) then idxM r_6 r_4.2.1 else some []).bind fun r_7=>(bif ltM 0 (wrap
 IntKind.i64 (lenM r_3-1)) then idxM r_7 r_4.1 else some 0).bind fun r_8=>(bif ltM 0 (wrap IntKind.i64 (lenM r_3-1)) then m68 (r_4.2.2,r_8) else some
 0).bind fun r_9=>bif PE.andM (ltM 0 (wrap IntKind.i64 (lenM r_3-1))) (ltM r_9 0) then (m69 ((x.1,x.2),r_3,r_4.2.1,r_4.1,wrap IntKind.i64 (wrap
 IntKind.i64 (lenM r_3-1)-1),wrap IntKind.i64 ((-1)-r_4.2.2))).bind fun r_10=>(appM (nat_lit 8) [s_1] r_10).bind fun r=>some (Sum.inr (Sum.inr (r,
 true,r_3))) else some (Sum.inl (wrap IntKind.i64 (s_1+1))) else some (Sum.inr (Sum.inl ()))) 0).bind fun o=>Sum.elim (fun (t:Unit)=>(mkM x.1 x.1
 (nat_lit 24) []).bind fun r_4=>(loopM (fun (s_1:Int×List (List Int))=>bif ltM s_1.1 x.1 then (loopM (fun (s_2:Int×List (List Int))=>bif ltM
 s_2.1 x.1 then (chkM s_1.1 (lenM s_2.2)).bind fun r_5=>(chkM s_1.1 (lenM s_2.2)).bind fun r_6=>(m100 (s_1.1,s_2.1)).bind fun r_7=>(app2M (nat_lit 8)
 s_2.2 s_1.1 [r_7]).bind fun r_8=>(chkM s_1.1 (lenM r_8)).bind fun r_9=>((sameM s_1.1 s_1.1).bind fun (x:Unit)=>(sameM s_1.1 s_1.1).bind fun (x:Unit)
 => chkM s_1.1 (lenM r_8)).bind fun r=>some (Sum.inl (wrap IntKind.i64 (s_2.1+1),r_8)) else some (Sum.inr s_2.2)) (0,s_1.2)).bind fun o=>some (Sum.inl
 (wrap IntKind.i64 (s_1.1+1),o)) else some (Sum.inr s_1.2)) (0,r_4)).bind fun o=>(loopM (fun (s_1:Int×List (List Int))=>bif ltM s_1.1 (lenM x.2)
 then (idxM x.2 s_1.1).bind fun r_5=>(loopM (fun (s_2:Int×List (List Int))=>bif ltM s_2.1 x.1 then (chkM s_2.1 (lenM s_2.2)).bind fun r_6=>(chkM
 s_2.1 (lenM s_2.2)).bind fun r_7=>(chkM s_2.1 (lenM s_2.2)).bind fun r_8=>(chkM s_2.1 (lenM s_2.2)).bind fun r_9=>((idxM s_2.2 s_2.1).bind fun (xs :
 List Int)=>chkM r_5.2.1 (lenM xs)).bind fun r_10=>((idxM s_2.2 s_2.1).bind fun (xs:List Int)=>(idxM xs r_5.2.1).bind fun (x:Int)=>some x).bind fun
 r_11=>(idxM s.1 s_2.1).bind fun r_12=>(idxM r_12 r_5.1).bind fun r_13=>(m68 (r_13,r_5.2.2)).bind fun r_14=>((idxM s_2.2 s_2.1).bind fun (xs:List
 Int)=>chkM r_5.2.1 (lenM xs)).bind fun r_15=>(set2M s_2.2 s_2.1 r_5.2.1 fun (x:Int)=>some (min r_11 r_14)).bind fun r=>some (Sum.inl (wrap
 IntKind.i64 (s_2.1+1),r)) else some (Sum.inr s_2.2)) (0,s_1.2)).bind fun o=>some (Sum.inl (wrap IntKind.i64 (s_1.1+1),o)) else some (Sum.inr s_1.2))
 (0,o)).bind fun o=>some (Sum.inl (o,r_3))) (fun (t:List Int×Bool×List (List (List Int)))=>some (Sum.inr (t.1,t.2.1,t.2.2))) o) (r_2,[])).bind
 fun o=>some (o.1,o.2.1)
theorem c37:SpecOK Tryz.prog 37 ⟨as37,rs37,m37⟩ :=
 fc tabs69OK [] an37 Tryz.f37 fun x=>by kernel_rfl
def tabs37:Tabs:=Tabs.add tabs69 37 ⟨as37,rs37,m37⟩
theorem tabs37OK:TabOK Tryz.prog tabs37:=TabOK.add tabs69OK c37 Tryz.call37

/-! cmp.isNaN[int] -/
def as92:List Ty:=[tI]
def rs92:List Ty:=[.bool]
def an92:Ann:=.a
def m92:Int→Option (Bool) :=
 fun x=>some (PE.notM (eqM x x))
theorem c92:SpecOK Tryz.prog 92 ⟨as92,rs92,m92⟩ :=
 fc tabs37OK [] an92 Tryz.f92 fun x=>by kernel_rfl
def tabs92:Tabs:=Tabs.add tabs37 92 ⟨as92,rs92,m92⟩
theorem tabs92OK:TabOK Tryz.prog tabs92:=TabOK.add tabs37OK c92 Tryz.call92

/-! putlog/network.Blame -/
def as15:List Ty:=[(.pair tI (.pair (.list (.pair tI tB)) (.list tC)))]
def rs15:List Ty:=[tL,.bool]
def an15:Ann:=.seq (.a) (.seq (.a) (.seq (.a) (.seq (.a) (.seq (.seq (.a) (.block (.seq (.seq (.a) (.seq (.a) (.seq (.join [(.norm,⟨[(4,.r (.c (.d (.d tL)))),(5,.r (.c (.d (.d .bool))))],(7::8::9::ra 20 19 ([])),[],[]⟩)] (.a)) (.a)))) (.seq (.seq (.a) (.seq (.a) (.seq (.join [(.norm,⟨[(4,.r (.c (.d (.d tL)))),(5,.r (.c (.d (.d .bool))))],(7::8::9::ra 20 19 ([])),[],[]⟩)] (.a)) (.a)))) (.seq (.a) (.join [] (.a))))))) (.seq (.a) (.seq (.seq (.a) (.block (.loop ⟨[(10,.r (.c (.h 1))),(42,.r (.c (.d (.d tI))))],(12::ra 43 9 ([])),[],[.arr tI]⟩ [(.exit 2,⟨[(10,.r (.c (.h 1)))],(12::ra 42 10 ([])),[],[.arr tI]⟩)] (.a)))) (.a)))))))
def m15:(Int×(List (Int×Int×Int×Int))×List (Int×Int×Int×Int×Int))→Option (List Int×Bool) :=
 fun x=>(m19 (x.1,x.2.1,x.2.2)).bind fun r=>bif PE.notM r then some ([],false) else (m36 (x.1,x.2.1,x.2.2)).bind fun r_1=>((m37 (r_1.1.1,
 r_1.1.2)).bind fun r=>bif PE.andM r.2 (PE.orM true (ltM (lenM r.1) 0)) then some (r.1,true) else some ([],false)).bind fun o=>((m37 (r_1.2.1,
 r_1.2.2)).bind fun r=>bif PE.andM r.2 (PE.orM (PE.notM o.2) (ltM (lenM r.1) (lenM o.1))) then some (r.1,true) else some (o.1,o.2)).bind fun o_1=>(loopM
 (fun (s:Int×List Int)=>bif ltM s.1 (lenM o_1.1) then (idxM o_1.1 s.1).bind fun r_2=>(divM IntKind.i64 r_2 2).bind fun r_3=>(appM (nat_lit 8) s.2
 [r_3]).bind fun r=>some (Sum.inl (wrap IntKind.i64 (s.1+1),r)) else some (Sum.inr s.2)) (0,[])).bind fun o_2=>(sortI o_2).bind fun r_2=>(compI
 r_2).bind fun r=>some (r,o_1.2)
theorem c15:SpecOK Tryz.prog 15 ⟨as15,rs15,m15⟩ :=
 fc tabs92OK [] an15 Tryz.f15 fun x=>by kernel_rfl
def tabs15:Tabs:=Tabs.add tabs92 15 ⟨as15,rs15,m15⟩
theorem tabs15OK:TabOK Tryz.prog tabs15:=TabOK.add tabs92OK c15 Tryz.call15

/-! putlog/putlogref09.Ints -/
def as45:List Ty:=[tL,tL]
def rs45:List Ty:=[.bool]
def an45:Ann:=.seq (.a) (.seq (.a) (.seq (.seq (.a) (.block (.loop ⟨[(5,.r (.c (.d (.d tI))))],(ra 11 15 ([])),[],[]⟩ [(.exit 0,⟨[],(5::ra 11 15 ([])),[],[]⟩),(.ret,⟨[(4,.r (.c (.d (.d .bool))))],(5::ra 11 15 ([])),[],[]⟩)] (.seq (.a) (.seq (.block (.seq (.reg [0,0,3,7,0,0,48,112,255] (ra 0 9 ([])) (za 9 ([])) (.a)) (.a))) (.a)))))) (.a)))
def m45:(List Int×List Int)→Option (Bool) :=
 fun x=>bif PE.notM (eqM (lenM x.1) (lenM x.2)) then some false else (loopM (fun (s:Int)=>bif ltM s (lenM x.1) then (idxM x.1 s).bind fun r=>(idxM x.2
 s).bind fun r_1=>bif PE.notM (eqM r r_1) then some (Sum.inr (Sum.inr false)) else some (Sum.inl (wrap IntKind.i64 (s+1))) else some (Sum.inr (Sum.inl
 ()))) 0).bind fun o=>Sum.elim (fun (t:Unit)=>some true) (fun (t:Bool)=>some t) o
theorem c45:SpecOK Tryz.prog 45 ⟨as45,rs45,m45⟩ :=
 fc tabs15OK [] an45 Tryz.f45 fun x=>by kernel_rfl
def tabs45:Tabs:=Tabs.add tabs15 45 ⟨as45,rs45,m45⟩
theorem tabs45OK:TabOK Tryz.prog tabs45:=TabOK.add tabs15OK c45 Tryz.call45

/-! putlog/putlogref10.Ints -/
def as18:List Ty:=[tL,tL]
def rs18:List Ty:=[.bool]
def an18:Ann:=.a
def m18:(List Int×List Int)→Option (Bool) :=
 fun x=>(m45 (x.1,x.2)).bind fun r=>some r
theorem c18:SpecOK Tryz.prog 18 ⟨as18,rs18,m18⟩ :=
 fc tabs45OK [] an18 Tryz.f18 fun x=>by kernel_rfl
def tabs18:Tabs:=Tabs.add tabs45 18 ⟨as18,rs18,m18⟩
theorem tabs18OK:TabOK Tryz.prog tabs18:=TabOK.add tabs45OK c18 Tryz.call18

/-! putlog/putlogref10.Same -/
def as16:List Ty:=[(.pair tL (.pair tL tI)),(.pair tL (.pair tL tI))]
def rs16:List Ty:=[.bool]
def an16:Ann:=.a
def m16:((List Int×List Int×Int)×List Int×List Int×Int)→Option (Bool) :=
 fun x=>(m18 (x.1.1,x.2.1)).bind fun r=>(bif r then m18 (x.1.2.1,x.2.2.1) else some false).bind fun r_1=>some (PE.andM (PE.andM r r_1) (eqM x.1.2.2
 x.2.2.2))
theorem c16:SpecOK Tryz.prog 16 ⟨as16,rs16,m16⟩ :=
 fc tabs18OK [] an16 Tryz.f16 fun x=>by kernel_rfl
def tabs16:Tabs:=Tabs.add tabs18 16 ⟨as16,rs16,m16⟩
theorem tabs16OK:TabOK Tryz.prog tabs16:=TabOK.add tabs18OK c16 Tryz.call16

/-! putlog/network.Allowed$1 -/
def as41:List Ty:=[tP]
def rs41:List Ty:=[.bool]
def an41:Ann:=.a
def m41:(Int×Int)→Option (Bool) :=
 fun x=>(m42 (x.1,x.2,1000000)).bind fun r=>some (PE.notM r)
theorem c41:SpecOK Tryz.prog 41 ⟨as41,rs41,m41⟩ :=
 fc tabs16OK [] an41 Tryz.f41 fun x=>by kernel_rfl
def tabs41:Tabs:=Tabs.add tabs16 41 ⟨as41,rs41,m41⟩
theorem tabs41OK:TabOK Tryz.prog tabs41:=TabOK.add tabs16OK c41 Tryz.call41

/-! putlog/network.Allowed -/
def as17:List Ty:=[(.pair tI (.pair (.list (.pair tI tB)) (.list tC))),tQ]
def rs17:List Ty:=[.bool]
def an17:Ann:=.seq (.a) (.seq (.seq (.reg [] [] [.s [0] [],z0,z0,z0,z0,z0,z0,.s [0] [],z0,z0,z0,z0,.r,z0] (.call [] [(.norm,⟨[(19,.r (.c (.d (.d .bool))))],[],[],[]⟩)] (.seq (.a) (.seq (.reg [] [] [z0,z0,.r,z0,z0] (.call [] [(.norm,⟨[(7,.r (.c (.d (.d tI))))],[],[],[]⟩)] (.seq (.a) (.seq (.seq (.a) (.block (.loop ⟨[(8,.r (.c (.d (.d tI))))],(5::ra 9 8 (18::[])),[],[]⟩ [(.exit 0,⟨[],(5::ra 8 9 (18::[])),[],[]⟩),(.ret,⟨[(4,.r (.c (.d (.d tI))))],(5::ra 8 11 ([])),[],[]⟩)] (.a)))) (.a))) (.a))) (.a))) (.a))) (.a)) (.seq (.a) (.seq (.seq (.reg [] [] [.s [0] [],.r] (.call [] [] (.seq (.a) (.a)) (.a))) (.block (.call [] [] (.seq (.seq (.a) (.block (.loop ⟨[(10,.r (.c (.d (.d tI))))],(4::ra 11 19 ([])),[(6,.lp .ready)],[]⟩ [(.exit 0,⟨[],(4::ra 10 20 ([])),[(6,.lp .ready)],[]⟩),(.ret,⟨[],(4::ra 10 20 ([])),[(1,.box [.d (.d .bool)]),(6,.lp (.done .ret))],[]⟩)] (.seq (.a) (.seq (.a) (.seq (.block (.seq (.a) (.seq (.reg [] [] [z0,z0,.s [7] [],z0,.s [7] [],z0,z0,.s [5] [],z0,.s [7] [],z0,.s [7] [],z0,.r,z0] (.call [] [] (.seq (.a) (.block (.seq (.reg [0,0,2,7,15,31,0,0,128,448,960,1984,4095,0,8192,24576,65535,0,0,262144,917504,1966080,4063232,0,0,16777216,58720256,125829120,260046848,536739840,0,1073741824,3221225472,8589803520,0,17179869184,68719476735,137438953471] (ra 0 38 ([])) (.s [4] []::z0::.s [8] []::.s [3] []::z0::.s [3] []::.s [4] []::z0::.s [8] []::.s [3] []::z0::.s [3] []::za 3 (.s [8] []::z0::.s [4] []::z0::.s [8] []::.s [3] []::z0::.s [3] []::.s [4] []::z0::.s [8] []::.s [3] []::z0::.s [3] []::za 3 (.s [8] []::z0::z0::.s [8] []::z0::z0::[]))) (.a)) (.a)))) (.a))) (.a)))) (.a))))))) (.seq (.a) (.block (.loop ⟨[(33,.r (.c (.d (.d tI))))],(6::ra 34 19 ([])),[(6,.lp .ready)],[]⟩ [(.exit 2,⟨[],(6::ra 33 20 ([])),[(6,.lp .ready)],[]⟩),(.ret,⟨[],(6::ra 33 20 ([])),[(1,.box [.d (.d .bool)]),(6,.lp (.done .ret))],[]⟩)] (.seq (.a) (.seq (.a) (.seq (.block (.seq (.a) (.seq (.reg [] [] [z0,z0,.s [7] [],z0,.s [7] [],z0,z0,.s [7] [],z0,.s [7] [],z0,.s [7] [],z0,.r,z0] (.call [] [] (.seq (.a) (.block (.seq (.reg [0,0,2,7,15,31,0,0,128,448,960,1984,4095,0,8192,24576,65535,0,0,262144,917504,1966080,4063232,0,0,16777216,58720256,125829120,260046848,536739840,0,1073741824,3221225472,8589803520,0,17179869184,68719476735,137438953471] (ra 0 38 ([])) (.s [4] []::z0::.s [8] []::.s [3] []::z0::.s [3] []::.s [4] []::z0::.s [8] []::.s [3] []::z0::.s [3] []::za 3 (.s [8] []::z0::.s [4] []::z0::.s [8] []::.s [3] []::z0::.s [3] []::.s [4] []::z0::.s [8] []::.s [3] []::z0::.s [3] []::za 3 (.s [8] []::z0::z0::.s [8] []::z0::z0::[]))) (.a)) (.a)))) (.a))) (.a)))) (.a)))))))) (.a)))) (.a))))
def m17:((Int×(List (Int×Int×Int×Int))×List (Int×Int×Int×Int×Int))×List (Int×Int))→Option (Bool) :=
 fun x=>(m19 (x.1.1,x.1.2.1,x.1.2.2)).bind fun r=>(bif PE.notM (PE.orM (PE.notM r) (PE.notM (eqM (lenM x.2) x.1.1))) then ((loopM (fun (s:Int)=>bif ltM
 s (lenM x.2) then (idxM x.2 s).bind fun r_1=>(m41 (r_1.1,r_1.2)).bind fun r=>bif r then some (Sum.inr (Sum.inr s)) else some (Sum.inl (wrap IntKind.i64
 (s+1))) else some (Sum.inr (Sum.inl ()))) 0).bind fun o=>Sum.elim (fun (t:Unit)=>some (-1)) (fun (t:Int)=>some t) o).bind fun (ov:Int)=>some
 (leM 0 ov) else some false).bind fun (ov:Bool)=>bif PE.orM (PE.orM (PE.notM r) (PE.notM (eqM (lenM x.2) x.1.1))) ov then some false else (mo43 x.2).bind
 fun r_1=>(appM (nat_lit 16) r_1 [(0,0)]).bind fun r_2=>(loopM (fun (s:Int)=>bif ltM s (lenM x.1.2.1) then (idxM x.1.2.1 s).bind fun r_3=>(chkM
 r_3.1 (lenM r_2)).bind fun r_4=>((idxM r_2 r_3.1).bind fun (x:Int×Int)=>some x.1).bind fun r_5=>(chkM x.1.1 (lenM r_2)).bind fun r_6=>((idxM r_2
 x.1.1).bind fun (x:Int×Int)=>some x.1).bind fun r_7=>(chkM r_3.1 (lenM r_2)).bind fun r_8=>((idxM r_2 r_3.1).bind fun (x:Int×Int)=>some
 x.2).bind fun r_9=>(chkM x.1.1 (lenM r_2)).bind fun r_10=>((idxM r_2 x.1.1).bind fun (x:Int×Int)=>some x.2).bind fun r_11=>(m42 (wrap IntKind.i64
 (wrap IntKind.i64 (r_5-r_7)-r_3.2.1),wrap IntKind.i64 (wrap IntKind.i64 (r_9-r_11)-r_3.2.2.1),r_3.2.2.2)).bind fun r=>bif PE.notM r then some
 (Sum.inr (Sum.inr false)) else some (Sum.inl (wrap IntKind.i64 (s+1))) else some (Sum.inr (Sum.inl ()))) 0).bind fun o=>Sum.elim (fun (t:Unit)=>(loopM
 (fun (s:Int)=>bif ltM s (lenM x.1.2.2) then (idxM x.1.2.2 s).bind fun r_3=>(chkM r_3.2.1 (lenM r_2)).bind fun r_4=>((idxM r_2 r_3.2.1).bind fun (x :
 Int×Int)=>some x.1).bind fun r_5=>(chkM r_3.1 (lenM r_2)).bind fun r_6=>((idxM r_2 r_3.1).bind fun (x:Int×Int)=>some x.1).bind fun r_7=>(chkM
 r_3.2.1 (lenM r_2)).bind fun r_8=>((idxM r_2 r_3.2.1).bind fun (x:Int×Int)=>some x.2).bind fun r_9=>(chkM r_3.1 (lenM r_2)).bind fun r_10=>((idxM
 r_2 r_3.1).bind fun (x:Int×Int)=>some x.2).bind fun r_11=>(m42 (wrap IntKind.i64 (wrap IntKind.i64 (r_5-r_7)-r_3.2.2.1),wrap IntKind.i64 (wrap
 IntKind.i64 (r_9-r_11)-r_3.2.2.2.1),r_3.2.2.2.2)).bind fun r=>bif PE.notM r then some (Sum.inr (Sum.inr false)) else some (Sum.inl (wrap IntKind.i64 (s
 + 1))) else some (Sum.inr (Sum.inl ()))) 0).bind fun o=>Sum.elim (fun (t:Unit)=>some true) (fun (t:Bool)=>some t) o) (fun (t:Bool)=>some t) o
theorem c17:SpecOK Tryz.prog 17 ⟨as17,rs17,m17⟩ :=
 fc (TabOK.drop tabs41OK [43]) [] an17 Tryz.f17 fun x=>by kernel_rfl
def tabs17:Tabs:=Tabs.add tabs41 17 ⟨as17,rs17,m17⟩
theorem tabs17OK:TabOK Tryz.prog tabs17:=TabOK.add tabs41OK c17 Tryz.call17

/-! putlog/putloglaw10.sane -/
def as4:List Ty:=[]
def rs4:List Ty:=[.bool]
def an4:Ann:=.a
def m4:Unit→Option (Bool) :=
 fun x=>(appM (nat_lit 40) [] [(0,1,100,0,3),(1,2,0,50,1),(0,2,104,48,2)]).bind fun r=>(chkM 2 (lenM r)).bind fun r_1=>(setM r 2 fun (x:Int
 × Int×Int×Int×Int)=>some (x.1,x.2.1,111,x.2.2.2)).bind fun r_2=>(m13 ((3,[(0,0,0,2)],[(0,1,100,0,3),(1,2,0,50,1),(0,2,104,48,
 2)]),0)).bind fun r_3=>(m13 ((3,[(0,0,0,2)],[(0,1,100,0,3),(1,2,0,50,1),(0,2,104,48,2)]),1)).bind fun r_4=>(m13 ((3,[(0,0,0,2)],
 [(0,1,100,0,3),(1,2,0,50,1),(0,2,104,48,2)]),2)).bind fun r_5=>(m14 ((3,[(0,0,0,2)],[(0,1,100,0,3),(1,2,0,50,1),(0,2,104,
 48,2)]),0,2)).bind fun r_6=>(m6 (3,[(0,0,0,2)],[(0,1,100,0,3),(1,2,0,50,1),(0,2,104,48,2)])).bind fun r_7=>(m15 (3,[(0,0,0,2)],
 r_2)).bind fun r_8=>(m15 (3,[(0,0,0,2)],[(0,1,100,0,3),(1,2,0,50,1),(0,2,104,48,2)])).bind fun r_9=>(m13 ((3,[(0,0,0,2)],r_2),
 0)).bind fun r_10=>bif PE.orM (PE.orM (PE.orM (PE.orM (PE.orM (PE.orM (PE.orM (PE.notM (eqM r_3.2 0)) (PE.notM (eqM r_4.2 0))) (PE.notM (eqM r_5.2 0)))
 (PE.notM (eqM r_6.2 0))) (PE.notM (eqM r_7.2 0))) (PE.notM (eqM r_10.2 100))) (PE.notM r_8.2)) r_9.2 then some false else (m16 ((r_7.1.1,r_7.1.2.1,
 r_7.1.2.2),[0,304,308],[0,(-2),146],3)).bind fun r_11=>(m17 ((3,[(0,0,0,2)],[(0,1,100,0,3),(1,2,0,50,1),(0,2,104,48,2)]),[(0,0),
 (101,(-1)),(102,48)])).bind fun r_12=>(bif r_12 then m17 ((3,[(0,0,0,2)],[(0,1,100,0,3),(1,2,0,50,1),(0,2,104,48,2)]),[(0,0),(104,
 (-1)),(103,48)]) else some false).bind fun r_13=>(bif PE.andM (PE.andM (PE.andM (PE.andM (PE.andM (PE.andM (eqM r_3.1.1 (-2)) (PE.andM (eqM r_3.1.2.1 2)
 (PE.andM (eqM r_3.1.2.2.1 (-2)) (eqM r_3.1.2.2.2 2)))) (PE.andM (eqM r_4.1.1 99) (PE.andM (eqM r_4.1.2.1 105) (PE.andM (eqM r_4.1.2.2.1 (-5)) (eqM r_4.1.2.2.2
 3))))) (PE.andM (eqM r_5.1.1 100) (PE.andM (eqM r_5.1.2.1 106) (PE.andM (eqM r_5.1.2.2.1 44) (eqM r_5.1.2.2.2 52))))) (PE.andM (eqM r_6.1.1 102) (PE.andM (eqM
 r_6.1.2.1 104) (PE.andM (eqM r_6.1.2.2.1 46) (eqM r_6.1.2.2.2 50))))) r_11) (PE.andM r_12 (PE.notM r_13)) then m18 (r_8.1,[1,2,3]) else some false).bind
 fun r_14=>(bif PE.andM (PE.andM (PE.andM (PE.andM (PE.andM (PE.andM (PE.andM (eqM r_3.1.1 (-2)) (PE.andM (eqM r_3.1.2.1 2) (PE.andM (eqM r_3.1.2.2.1 (-2))
 (eqM r_3.1.2.2.2 2)))) (PE.andM (eqM r_4.1.1 99) (PE.andM (eqM r_4.1.2.1 105) (PE.andM (eqM r_4.1.2.2.1 (-5)) (eqM r_4.1.2.2.2 3))))) (PE.andM (eqM r_5.1.1
 100) (PE.andM (eqM r_5.1.2.1 106) (PE.andM (eqM r_5.1.2.2.1 44) (eqM r_5.1.2.2.2 52))))) (PE.andM (eqM r_6.1.1 102) (PE.andM (eqM r_6.1.2.1 104) (PE.andM (eqM
 r_6.1.2.2.1 46) (eqM r_6.1.2.2.2 50))))) r_11) (PE.andM r_12 (PE.notM r_13))) r_14 then m19 (3,[(0,0,0,2)],[(0,1,100,0,3),(1,2,0,50,1),(0,2,
 104,48,2)]) else some false).bind fun r_15=>(bif PE.andM (PE.andM (PE.andM (PE.andM (PE.andM (PE.andM (PE.andM (PE.andM (eqM r_3.1.1 (-2)) (PE.andM (eqM
 r_3.1.2.1 2) (PE.andM (eqM r_3.1.2.2.1 (-2)) (eqM r_3.1.2.2.2 2)))) (PE.andM (eqM r_4.1.1 99) (PE.andM (eqM r_4.1.2.1 105) (PE.andM (eqM r_4.1.2.2.1 (-5))
 (eqM r_4.1.2.2.2 3))))) (PE.andM (eqM r_5.1.1 100) (PE.andM (eqM r_5.1.2.1 106) (PE.andM (eqM r_5.1.2.2.1 44) (eqM r_5.1.2.2.2 52))))) (PE.andM (eqM r_6.1.1
 102) (PE.andM (eqM r_6.1.2.1 104) (PE.andM (eqM r_6.1.2.2.1 46) (eqM r_6.1.2.2.2 50))))) r_11) (PE.andM r_12 (PE.notM r_13))) r_14) r_15 then m19 (9,[],[])
 else some false).bind fun r=>some (PE.andM (PE.andM (PE.andM (PE.andM (PE.andM (PE.andM (PE.andM (PE.andM (PE.andM (eqM r_3.1.1 (-2)) (PE.andM (eqM
 r_3.1.2.1 2) (PE.andM (eqM r_3.1.2.2.1 (-2)) (eqM r_3.1.2.2.2 2)))) (PE.andM (eqM r_4.1.1 99) (PE.andM (eqM r_4.1.2.1 105) (PE.andM (eqM r_4.1.2.2.1 (-5))
 (eqM r_4.1.2.2.2 3))))) (PE.andM (eqM r_5.1.1 100) (PE.andM (eqM r_5.1.2.1 106) (PE.andM (eqM r_5.1.2.2.1 44) (eqM r_5.1.2.2.2 52))))) (PE.andM (eqM r_6.1.1
 102) (PE.andM (eqM r_6.1.2.1 104) (PE.andM (eqM r_6.1.2.2.1 46) (eqM r_6.1.2.2.2 50))))) r_11) (PE.andM r_12 (PE.notM r_13))) r_14) r_15) (PE.notM r))
theorem c4:SpecOK Tryz.prog 4 ⟨as4,rs4,m4⟩ :=
 fc tabs17OK [] an4 Tryz.f4 fun x=>by kernel_rfl
def tabs4:Tabs:=Tabs.add tabs17 4 ⟨as4,rs4,m4⟩
theorem tabs4OK:TabOK Tryz.prog tabs4:=TabOK.add tabs17OK c4 Tryz.call4

/-! putlog/putlogref10.pick -/
def as21:List Ty:=[tI,tI]
def rs21:List Ty:=[tI]
def an21:Ann:=.seq (.a) (.seq (.join [(.norm,⟨[(0,.r (.c (.d (.d tI))))],[5,6,7,8,9],[],[]⟩)] (.a)) (.a))
def m21:(Int×Int)→Option (Int) :=
 fun x=>(bif ltM x.1 0 then some (wrap IntKind.i64 (negM (wrap IntKind.i64 (x.1+1)))) else some x.1).bind fun o=>(remM o x.2).bind fun r=>some r
theorem c21:SpecOK Tryz.prog 21 ⟨as21,rs21,m21⟩ :=
 fc tabs4OK [] an21 Tryz.f21 fun x=>by kernel_rfl
def tabs21:Tabs:=Tabs.add tabs4 21 ⟨as21,rs21,m21⟩
theorem tabs21OK:TabOK Tryz.prog tabs21:=TabOK.add tabs4OK c21 Tryz.call21

/-! putlog/putlogref10.Hidden -/
def as20:List Ty:=[(.pair tQ (.pair tL (.pair (.list (.pair tI tB)) (.pair (.list tC) tB))))]
def rs20:List Ty:=[tQ]
def an20:Ann:=.seq (.a) (.seq (.a) (.seq (.seq (.a) (.block (.loop ⟨[(3,.r (.c (.h 1))),(4,.r (.c (.d (.d tI))))],(ra 5 31 ([])),[],[.arr tP]⟩ [(.exit 0,⟨[(3,.r (.c (.h 1)))],(ra 4 32 ([])),[],[.arr tP]⟩)] (.seq (.a) (.seq (.block (.reg [0,0,2,0,14,30,62,126,254,0,512,0,3584,7680,15872,32510,65278,131070,262142,524287,1048575] (ra 0 21 ([])) (z0::z0::.s [0] []::za 7 (.s [0] []::za 8 (.s [1] [2,1]::z0::[]))) (.a))) (.a)))))) (.a)))
def m20:((List (Int×Int))×List Int×(List (Int×Int×Int×Int))×(List (Int×Int×Int×Int×Int))×Int×Int×Int)→Option (List (Int×Int)) :=
 fun x=>(loopM (fun (s:Int×List (Int×Int))=>bif PE.andM (ltM s.1 (lenM x.1)) (ltM s.1 8) then (idxM x.1 s.1).bind fun r=>(m21 (r.1,1001)).bind fun
 r_1=>(idxM x.1 s.1).bind fun r_2=>(m21 (r_2.2,1001)).bind fun r_3=>(appM (nat_lit 16) s.2 [(wrap IntKind.i64 (r_1-500),wrap IntKind.i64 (r_3 -
 500))]).bind fun r=>some (Sum.inl (wrap IntKind.i64 (s.1+1),r)) else some (Sum.inr s.2)) (0,[])).bind fun o=>some o
theorem c20:SpecOK Tryz.prog 20 ⟨as20,rs20,m20⟩ :=
 fc tabs21OK [] an20 Tryz.f20 fun x=>by kernel_rfl
def tabs20:Tabs:=Tabs.add tabs21 20 ⟨as20,rs20,m20⟩
theorem tabs20OK:TabOK Tryz.prog tabs20:=TabOK.add tabs21OK c20 Tryz.call20

/-! putlog/putlogref10.Sight -/
def as22:List Ty:=[tQ,tC]
def rs22:List Ty:=[tC]
def an22:Ann:=.seq (.a) (.seq (.reg [0,1,0,4,15,0,32,127,255,0,1023] (ra 0 11 ([])) (z0::.s [0] []::za 4 (.s [0] []::z0::z0::.s [] [2]::.s [2] [2]::[])) (.a)) (.seq (.reg [0,1,3,0,8,0,32,96,248,511,0,1024,4095,8191,16383] (ra 0 15 ([])) (z0::.s [2] []::z0::z0::.s [0] []::za 9 (.s [2] [2]::[])) (.a)) (.seq (.reg [0,0,2,7,15,31,0,0,128,448,960,1984,4095,0,8192,0,32768,98304,229376,516096,1048575,0,2097152,8388607,16777215,33554431] (ra 0 26 ([])) (z0::z0::.s [2] []::za 5 (.s [2] []::za 5 (.s [0] []::z0::.s [2] []::za 5 (.s [2] []::z0::z0::.s [2] [2]::[])))) (.a)) (.seq (.reg [0,0,2,7,15,31,0,0,128,448,960,1984,4095,0,8192,0,32768,98304,229376,516096,1048575,0,2097152,8388607,16777215,33554431] (ra 0 26 ([])) (z0::z0::.s [2] []::za 5 (.s [2] []::za 5 (.s [0] []::z0::.s [2] []::za 5 (.s [2] []::z0::z0::.s [2] [2]::[])))) (.a)) (.a)))))
def m22:((List (Int×Int))×Int×Int×Int×Int×Int)→Option (Int×Int×Int×Int×Int) :=
 fun x=>(m21 (x.2.1,lenM x.1)).bind fun r=>(m21 (x.2.2.2.1,12)).bind fun r_1=>(m21 (x.2.2.1,wrap IntKind.i64 (lenM x.1-1))).bind fun r_2=>(remM
 (wrap IntKind.i64 (wrap IntKind.i64 (r+1)+r_2)) (lenM x.1)).bind fun r_3=>(idxM x.1 r_3).bind fun r_4=>(idxM x.1 r).bind fun r_5=>(m21 (x.2.2.2.2.1,
 wrap IntKind.i64 (wrap IntKind.i64 (2*r_1)+1))).bind fun r_6=>(idxM x.1 r_3).bind fun r_7=>(idxM x.1 r).bind fun r_8=>(m21 (x.2.2.2.2.2,wrap
 IntKind.i64 (wrap IntKind.i64 (2*r_1)+1))).bind fun r_9=>some (r,r_3,wrap IntKind.i64 (wrap IntKind.i64 (wrap IntKind.i64 (r_4.1-r_5.1)+r_6) -
 r_1),wrap IntKind.i64 (wrap IntKind.i64 (wrap IntKind.i64 (r_7.2-r_8.2)+r_9)-r_1),r_1)
theorem c22:SpecOK Tryz.prog 22 ⟨as22,rs22,m22⟩ :=
 fc tabs20OK [] an22 Tryz.f22 fun x=>by kernel_rfl
def tabs22:Tabs:=Tabs.add tabs20 22 ⟨as22,rs22,m22⟩
theorem tabs22OK:TabOK Tryz.prog tabs22:=TabOK.add tabs20OK c22 Tryz.call22

/-! putlog/putlogref10.Misses -/
def as23:List Ty:=[(.pair tQ (.pair tL (.pair (.list (.pair tI tB)) (.pair (.list tC) tB))))]
def rs23:List Ty:=[.bool]
def an23:Ann:=.a
def m23:((List (Int×Int))×List Int×(List (Int×Int×Int×Int))×(List (Int×Int×Int×Int×Int))×Int×Int×Int)→Option (Bool) :=
 fun x=>(m21 (x.2.2.2.2.1,3)).bind fun r=>some (eqM r 2)
theorem c23:SpecOK Tryz.prog 23 ⟨as23,rs23,m23⟩ :=
 fc tabs22OK [] an23 Tryz.f23 fun x=>by kernel_rfl
def tabs23:Tabs:=Tabs.add tabs22 23 ⟨as23,rs23,m23⟩
theorem tabs23OK:TabOK Tryz.prog tabs23:=TabOK.add tabs22OK c23 Tryz.call23

/-! putlog/putlogref10.Made -/
def as5:List Ty:=[(.pair tQ (.pair tL (.pair (.list (.pair tI tB)) (.pair (.list tC) tB))))]
def rs5:List Ty:=[(.pair tI (.pair (.list (.pair tI tB)) (.list tC)))]
def an5:Ann:=.seq (.a) (.seq (.a) (.seq (.a) (.seq (.seq (.a) (.block (.loop ⟨[(5,.r (.c (.d (.d tI))))],(6::ra 17 83 ([])),[(2,.box [.d (.d tI),.h 3,.l .nilS])],[.arr (.pair tI tB)]⟩ [(.exit 0,⟨[],(5::6::ra 17 83 ([])),[(2,.box [.d (.d tI),.h 3,.l .nilS])],[.arr (.pair tI tB)]⟩)] (.seq (.a) (.seq (.block (.seq (.reg [0,1,0,7,15,31,0,64,255,0,512,0,3584,7680,15872,32767,65535,0,262143] (ra 0 19 ([])) (z0::.s [0] []::za 8 (.s [0] []::za 6 (.s [] [4]::.s [4] [4]::[]))) (.a)) (.seq (.reg [0,0,2,7,15,31,0,64,0,448,960,1984,0,4096,12288,28672,65472,131071,0,262144,1048575,2097151,4194303] (ra 0 23 ([])) (z0::z0::.s [4] []::za 4 (.s [0] []::za 5 (.s [4] []::za 5 (.s [4] []::z0::z0::.s [4] [4]::[])))) (.a)) (.seq (.reg [0,0,2,7,15,31,0,64,0,448,960,1984,0,4096,12288,28672,65472,131071,0,262144,1048575,2097151,4194303] (ra 0 23 ([])) (z0::z0::.s [4] []::za 4 (.s [0] []::za 5 (.s [4] []::za 5 (.s [4] []::z0::z0::.s [4] [4]::[])))) (.a)) (.a))))) (.a)))))) (.seq (.seq (.a) (.block (.loop ⟨[(7,.r (.c (.d (.d tI))))],(8::ra 100 62 ([])),[(2,.box [.d (.d tI),.h 3,.h 4])],[.arr tC]⟩ [(.exit 2,⟨[],(7::8::ra 100 62 ([])),[(2,.box [.d (.d tI),.h 3,.h 4])],[.arr tC]⟩)] (.seq (.a) (.seq (.block (.seq (.a) (.reg [0,1,0,0,8,0,0,64,224,480,992,0,0,6144,14336,30720,65504,0,0,262144,917504,1966080,4063232,0,0,25165824,58720256,125829120,268304384,0,536870912,0,3758096384,8053063680,16642998272,33822867456,68719476732,137438953468,274877906943,549755813887,1099511627775] (ra 0 41 ([])) (z0::.s [2] []::za 28 (.s [0] []::za 7 (.s [4] [5,4]::z0::.s [2,5] [2]::[]))) (.a)))) (.a)))))) (.seq (.seq (.a) (.block (.loop ⟨[(9,.r (.c (.d (.d tI))))],(ra 162 28 ([])),[(2,.box [.d (.d tI),.h 3,.h 5]),(4,.gone)],[.arr tC]⟩ [(.exit 4,⟨[],(9::ra 162 28 ([])),[(2,.box [.d (.d tI),.h 3,.h 5]),(4,.gone)],[.arr tC]⟩)] (.seq (.a) (.seq (.block (.reg [0,1,0,0,8,0,56,120,252,508,1023,2047,4095] (ra 0 13 ([])) (z0::.s [2] []::z0::z0::.s [0] []::za 5 (.s [5] [6,5]::z0::.s [2,6] [2]::[])) (.a))) (.a)))))) (.seq (.join [(.norm,⟨[],(10::11::ra 190 52 ([])),[(5,.arr tC)],[]⟩)] (.seq (.a) (.cond (.seq (.a) (.seq (.a) (.seq (.a) (.cond (.reg [0,1,0,0,8,0,56,120,248,0,1016,2047,4095,8191] (ra 0 14 ([])) [z0,.s [2] [],z0,z0,.s [2] [],z0,.s [5] [],z0,.s [5] [],z0,z0,.s [5] [],z0,.s [5] [5]] (.a)) (.reg [0,1,0,0,8,0,56,120,248,0,1016,2047,4095,8191] (ra 0 14 ([])) [z0,.s [2] [],z0,z0,.s [2] [],z0,.s [5] [],z0,.s [5] [],z0,z0,.s [5] [],z0,.s [5] [5]] (.a)))))) (.a)))) (.a)))))))
def m5:((List (Int×Int))×List Int×(List (Int×Int×Int×Int))×(List (Int×Int×Int×Int×Int))×Int×Int×Int)→Option (Int×(List (Int×Int×Int×Int))×List (Int×Int×Int×Int×Int)) :=
 fun x=>(m20 (x.1,x.2.1,x.2.2.1,x.2.2.2.1,x.2.2.2.2.1,x.2.2.2.2.2.1,x.2.2.2.2.2.2)).bind fun r=>(loopM (fun (s:Int×Int×List (Int×Int×Int ×
 Int))=>bif PE.andM (PE.andM (ltM s.1 (lenM x.2.2.1)) (ltM s.1 6)) (ltM 0 (lenM r)) then (idxM x.2.2.1 s.1).bind fun r_1=>(m21 (r_1.1,lenM r)).bind fun
 r_2=>(idxM x.2.2.1 s.1).bind fun r_3=>(m21 (r_3.2.1,12)).bind fun r_4=>(idxM r r_2).bind fun r_5=>(idxM x.2.2.1 s.1).bind fun r_6=>(m21 (r_6.2.2.1,
 wrap IntKind.i64 (wrap IntKind.i64 (2*r_4)+1))).bind fun r_7=>(idxM r r_2).bind fun r_8=>(idxM x.2.2.1 s.1).bind fun r_9=>(m21 (r_9.2.2.2,wrap
 IntKind.i64 (wrap IntKind.i64 (2*r_4)+1))).bind fun r_10=>(appM (nat_lit 32) s.2.2 [(r_2,wrap IntKind.i64 (wrap IntKind.i64 (r_5.1+r_7)-r_4),wrap
 IntKind.i64 (wrap IntKind.i64 (r_8.2+r_10)-r_4),r_4)]).bind fun r=>some (Sum.inl (wrap IntKind.i64 (s.1+1),s.2.1,r)) else some (Sum.inr (s.2.1,
 s.2.2))) (0,lenM r,[])).bind fun o=>(loopM (fun (s:Int×Int×List (Int×Int×Int×Int×Int))=>bif PE.andM (ltM s.1 (lenM x.2.1)) (ltM (wrap
 IntKind.i64 (s.1+1)) (lenM r)) then (idxM x.2.1 s.1).bind fun r_1=>(m21 (r_1,wrap IntKind.i64 (s.1+1))).bind fun r_2=>(idxM r (wrap IntKind.i64 (s.1
 + 1))).bind fun r_3=>(idxM r r_2).bind fun r_4=>(idxM r (wrap IntKind.i64 (s.1+1))).bind fun r_5=>(idxM r r_2).bind fun r_6=>(idxM x.2.1 s.1).bind
 fun r_7=>(divM IntKind.i64 r_7 8).bind fun r_8=>(m21 (r_8,10)).bind fun r_9=>(appM (nat_lit 40) s.2.2 [(r_2,wrap IntKind.i64 (s.1+1),wrap
 IntKind.i64 (r_3.1-r_4.1),wrap IntKind.i64 (r_5.2-r_6.2),r_9)]).bind fun r=>some (Sum.inl (wrap IntKind.i64 (s.1+1),s.2.1,r)) else some (Sum.inr
 (s.2.1,s.2.2))) (0,o.1,[])).bind fun o_1=>(loopM (fun (s:Int×Int×List (Int×Int×Int×Int×Int))=>bif PE.andM (PE.andM (ltM s.1 (lenM
 x.2.2.2.1)) (ltM s.1 10)) (ltM 1 (lenM r)) then (idxM x.2.2.2.1 s.1).bind fun r_1=>(m22 (r,r_1.1,r_1.2.1,r_1.2.2.1,r_1.2.2.2.1,r_1.2.2.2.2)).bind fun
 r_2=>(appM (nat_lit 40) s.2.2 [(r_2.1,r_2.2.1,r_2.2.2.1,r_2.2.2.2.1,r_2.2.2.2.2)]).bind fun r=>some (Sum.inl (wrap IntKind.i64 (s.1+1),s.2.1,r))
 else some (Sum.inr (s.2.1,s.2.2))) (0,o_1.1,o_1.2)).bind fun o_2=>((m23 (x.1,x.2.1,x.2.2.1,x.2.2.2.1,x.2.2.2.2.1,x.2.2.2.2.2.1,x.2.2.2.2.2.2)).bind
 fun r_1=>bif PE.andM r_1 (ltM 0 (lenM o_2.2)) then (m21 (x.2.2.2.2.2.1,lenM o_2.2)).bind fun r_2=>(divM IntKind.i64 x.2.2.2.2.2.2 2).bind fun r_3=>(m21
 (r_3,60)).bind fun r_4=>(m21 (x.2.2.2.2.2.2,2)).bind fun r_5=>bif eqM r_5 0 then (chkM r_2 (lenM o_2.2)).bind fun r_6=>((idxM o_2.2 r_2).bind fun (x :
 Int×Int×Int×Int×Int)=>some x.2.2.1).bind fun r_7=>(chkM r_2 (lenM o_2.2)).bind fun r_8=>(setM o_2.2 r_2 fun (x:Int×Int×Int×Int×Int) =>
 some (x.1,x.2.1,wrap IntKind.i64 (r_7+wrap IntKind.i64 (r_4+1)),x.2.2.2)).bind fun r=>some r else (chkM r_2 (lenM o_2.2)).bind fun r_6=>((idxM
 o_2.2 r_2).bind fun (x:Int×Int×Int×Int×Int)=>some x.2.2.2.1).bind fun r_7=>(chkM r_2 (lenM o_2.2)).bind fun r_8=>(setM o_2.2 r_2 fun (x:Int
 × Int×Int×Int×Int)=>some (x.1,x.2.1,x.2.2.1,wrap IntKind.i64 (r_7-wrap IntKind.i64 (r_4+1)),x.2.2.2.2)).bind fun r=>some r else some
 o_2.2).bind fun o_3=>some (o_2.1,o.2,o_3)
theorem c5:SpecOK Tryz.prog 5 ⟨as5,rs5,m5⟩ :=
 fc tabs23OK [] an5 Tryz.f5 fun x=>by kernel_rfl
def tabs5:Tabs:=Tabs.add tabs23 5 ⟨as5,rs5,m5⟩
theorem tabs5OK:TabOK Tryz.prog tabs5:=TabOK.add tabs23OK c5 Tryz.call5

/-! putlog/putlogref10.Tied -/
def as27:List Ty:=[(.pair tI (.pair (.list (.pair tI tB)) (.list tC)))]
def rs27:List Ty:=[(.list .bool)]
def an27:Ann:=.seq (.a) (.seq (.a) (.seq (.seq (.a) (.block (.loop ⟨[(4,.r (.c (.d (.d tI))))],(ra 10 15 ([])),[(1,.arr .bool)],[]⟩ [(.exit 0,⟨[],(4::ra 10 15 ([])),[(1,.arr .bool)],[]⟩)] (.a)))) (.seq (.seq (.a) (.block (.loop ⟨[(5,.r (.c (.d (.d tI))))],(6::ra 25 49 ([])),[(1,.arr .bool)],[]⟩ [(.exit 2,⟨[],(5::6::ra 25 49 ([])),[(1,.arr .bool)],[]⟩)] (.seq (.a) (.seq (.block (.seq (.a) (.block (.loop ⟨[(6,.r (.c (.d (.d tI))))],(ra 31 43 ([])),[(1,.arr .bool)],[]⟩ [(.exit 4,⟨[],(6::ra 31 43 ([])),[(1,.arr .bool)],[]⟩)] (.seq (.a) (.seq (.join [(.norm,⟨[],(ra 38 36 ([])),[(1,.arr .bool)],[]⟩)] (.a)) (.a))))))) (.a)))))) (.a))))
def m27:(Int×(List (Int×Int×Int×Int))×List (Int×Int×Int×Int×Int))→Option (List Bool) :=
 fun x=>(mkM x.1 x.1 (nat_lit 1) false).bind fun r=>(loopM (fun (s:Int×List Bool)=>bif ltM s.1 (lenM x.2.1) then (idxM x.2.1 s.1).bind fun r_1=>(chkM
 r_1.1 (lenM s.2)).bind fun r_2=>(setM s.2 r_1.1 fun (x:Bool)=>some true).bind fun r=>some (Sum.inl (wrap IntKind.i64 (s.1+1),r)) else some (Sum.inr
 s.2)) (0,r)).bind fun o=>(loopM (fun (s:Int×List Bool)=>bif ltM s.1 x.1 then (loopM (fun (s_1:Int×List Bool)=>bif ltM s_1.1 (lenM x.2.2) then
 ((idxM x.2.2 s_1.1).bind fun r_1=>(chkM r_1.1 (lenM s_1.2)).bind fun r_2=>(idxM s_1.2 r_1.1).bind fun r_3=>(bif PE.notM r_3 then idxM x.2.2 s_1.1 else
 some (0,0,0,0,0)).bind fun r_4=>(bif PE.notM r_3 then chkM r_4.2.1 (lenM s_1.2) else some ()).bind fun r_5=>(bif PE.notM r_3 then idxM s_1.2 r_4.2.1
 else some false).bind fun r_6=>bif PE.orM r_3 r_6 then (idxM x.2.2 s_1.1).bind fun r_7=>(chkM r_7.1 (lenM s_1.2)).bind fun r_8=>(setM s_1.2 r_7.1 fun (x
 : Bool)=>some true).bind fun r_9=>(idxM x.2.2 s_1.1).bind fun r_10=>(chkM r_10.2.1 (lenM r_9)).bind fun r_11=>(setM r_9 r_10.2.1 fun (x:Bool) =>
 some true).bind fun r=>some r else some s_1.2).bind fun o=>some (Sum.inl (wrap IntKind.i64 (s_1.1+1),o)) else some (Sum.inr s_1.2)) (0,s.2)).bind fun
 o=>some (Sum.inl (wrap IntKind.i64 (s.1+1),o)) else some (Sum.inr s.2)) (0,o)).bind fun o=>some o
theorem c27:SpecOK Tryz.prog 27 ⟨as27,rs27,m27⟩ :=
 fc tabs5OK [] an27 Tryz.f27 fun x=>by kernel_rfl
def tabs27:Tabs:=Tabs.add tabs5 27 ⟨as27,rs27,m27⟩
theorem tabs27OK:TabOK Tryz.prog tabs27:=TabOK.add tabs5OK c27 Tryz.call27

/-! putlog/putloglaw10.all -/
def as7:List Ty:=[(.pair tI (.pair (.list (.pair tI tB)) (.list tC)))]
def rs7:List Ty:=[.bool]
def an7:Ann:=.seq (.a) (.seq (.a) (.seq (.seq (.a) (.block (.loop ⟨[(4,.r (.c (.d (.d tI))))],(ra 7 11 ([])),[],[]⟩ [(.exit 0,⟨[],(4::ra 7 11 ([])),[],[]⟩),(.ret,⟨[(2,.r (.c (.d (.d .bool))))],(4::ra 7 11 ([])),[],[]⟩)] (.a)))) (.a)))
def m7:(Int×(List (Int×Int×Int×Int))×List (Int×Int×Int×Int×Int))→Option (Bool) :=
 fun x=>(m27 (x.1,x.2.1,x.2.2)).bind fun r=>(loopM (fun (s:Int)=>bif ltM s (lenM r) then (idxM r s).bind fun r=>bif PE.notM r then some (Sum.inr
 (Sum.inr false)) else some (Sum.inl (wrap IntKind.i64 (s+1))) else some (Sum.inr (Sum.inl ()))) 0).bind fun o=>Sum.elim (fun (t:Unit)=>some true) (fun
 (t:Bool)=>some t) o
theorem c7:SpecOK Tryz.prog 7 ⟨as7,rs7,m7⟩ :=
 fc tabs27OK [] an7 Tryz.f7 fun x=>by kernel_rfl
def tabs7:Tabs:=Tabs.add tabs27 7 ⟨as7,rs7,m7⟩
theorem tabs7OK:TabOK Tryz.prog tabs7:=TabOK.add tabs27OK c7 Tryz.call7

/-! putlog/putloglaw10.pick -/
def as8:List Ty:=[tI,tI]
def rs8:List Ty:=[tI]
def an8:Ann:=.seq (.a) (.seq (.join [(.norm,⟨[(0,.r (.c (.d (.d tI))))],[5,6,7,8,9],[],[]⟩)] (.a)) (.a))
def m8:(Int×Int)→Option (Int) :=
 fun x=>(bif ltM x.1 0 then some (wrap IntKind.i64 (negM (wrap IntKind.i64 (x.1+1)))) else some x.1).bind fun o=>(remM o x.2).bind fun r=>some r
theorem c8:SpecOK Tryz.prog 8 ⟨as8,rs8,m8⟩ :=
 fc tabs7OK [] an8 Tryz.f8 fun x=>by kernel_rfl
def tabs8:Tabs:=Tabs.add tabs7 8 ⟨as8,rs8,m8⟩
theorem tabs8OK:TabOK Tryz.prog tabs8:=TabOK.add tabs7OK c8 Tryz.call8

/-! putlog/integer.FromInt -/
def as9:List Ty:=[tI]
def rs9:List Ty:=[.str]
def an9:Ann:=.a
def m9:Int→Option (List UInt8) :=
 fun x=>some (itoaM x)
theorem c9:SpecOK Tryz.prog 9 ⟨as9,rs9,m9⟩ :=
 fc tabs8OK [] an9 Tryz.f9 fun x=>by kernel_rfl
def tabs9:Tabs:=Tabs.add tabs8 9 ⟨as9,rs9,m9⟩
theorem tabs9OK:TabOK Tryz.prog tabs9:=TabOK.add tabs8OK c9 Tryz.call9

/-! putlog/integer.isValid -/
def as53:List Ty:=[.str]
def rs53:List Ty:=[.bool]
def an53:Ann:=.a
def m53:List UInt8→Option (Bool) :=
 fun x=>(bif PE.notM (PE.orM (eqsM (prefM x [(45:UInt8)]) []) (ltM 200 (lenM (prefM x [(45:UInt8)])))) then trimM (prefM x [(45:UInt8)]) [(48:UInt8),
 (49:UInt8),(50:UInt8),(51:UInt8),(52:UInt8),(53:UInt8),(54:UInt8),(55:UInt8),(56:UInt8),(57:UInt8)] else some []).bind fun r=>bif
 PE.orM (PE.orM (eqsM (prefM x [(45:UInt8)]) []) (ltM 200 (lenM (prefM x [(45:UInt8)])))) (PE.notM (eqsM r [])) then some false else (bif PE.notM (eqsM x
 [(48:UInt8)]) then byteM (prefM x [(45:UInt8)]) 0 else some 0).bind fun r=>some (PE.orM (eqsM x [(48:UInt8)]) (PE.notM (eqM r 48)))
theorem c53:SpecOK Tryz.prog 53 ⟨as53,rs53,m53⟩ :=
 fc tabs9OK [] an53 Tryz.f53 fun x=>by kernel_rfl
def tabs53:Tabs:=Tabs.add tabs9 53 ⟨as53,rs53,m53⟩
theorem tabs53OK:TabOK Tryz.prog tabs53:=TabOK.add tabs9OK c53 Tryz.call53

/-! (putlog/integer.number).trimmed -/
def as81:List Ty:=[tL]
def rs81:List Ty:=[tL]
def an81:Ann:=.seq (.a) (.seq (.block (.loop ⟨[(0,.r (.c (.d (.d tL))))],(ra 3 17 ([])),[],[]⟩ [(.exit 0,⟨[(0,.r (.c (.d (.d tL))))],(ra 3 17 ([])),[],[]⟩)] (.a))) (.a))
def m81:List Int→Option (List Int) :=
 fun x=>(loopM (fun (s:List Int)=>(bif ltM 0 (lenM s) then idxM s (wrap IntKind.i64 (lenM s-1)) else some 0).bind fun r=>bif PE.andM (ltM 0 (lenM s))
 (eqM r 0) then (sliceM s 0 (wrap IntKind.i64 (lenM s-1))).bind fun r=>some (Sum.inl r) else some (Sum.inr s)) x).bind fun o=>some o
theorem c81:SpecOK Tryz.prog 81 ⟨as81,rs81,m81⟩ :=
 fc tabs53OK [] an81 Tryz.f81 fun x=>by kernel_rfl
def tabs81:Tabs:=Tabs.add tabs53 81 ⟨as81,rs81,m81⟩
theorem tabs81OK:TabOK Tryz.prog tabs81:=TabOK.add tabs53OK c81 Tryz.call81

/-! putlog/integer.parse -/
def as54:List Ty:=[.str]
def rs54:List Ty:=[(.pair .bool tL)]
def an54:Ann:=.seq (.a) (.seq (.a) (.seq (.a) (.seq (.block (.loop ⟨[(3,.r (.c (.d (.d .str))))],(5::6::7::ra 16 23 ([])),[(1,.box [.d (.d .bool),.h 2])],[.arr tI]⟩ [(.exit 0,⟨[],(3::5::6::7::ra 16 23 ([])),[(1,.box [.d (.d .bool),.h 2])],[.arr tI]⟩)] (.a))) (.a))))
def m54:List UInt8→Option (Bool×List Int) :=
 fun x=>(loopM (fun (s:List UInt8×Bool×List Int)=>bif ltM 0 (lenM s.1) then (sliceM s.1 (max 0 (wrap IntKind.i64 (lenM s.1-4))) (lenM s.1)).bind fun
 r=>(atoiM r).bind fun r_1=>(appM (nat_lit 8) s.2.2 [r_1]).bind fun r_2=>(sliceM s.1 0 (max 0 (wrap IntKind.i64 (lenM s.1-4)))).bind fun r=>some
 (Sum.inl (r,s.2.1,r_2)) else some (Sum.inr (s.2.1,s.2.2))) (prefM x [(45:UInt8)],ltM (lenM (prefM x [(45:UInt8)])) (lenM x),[])).bind fun o=>(m81
 o.2).bind fun r=>some (o.1,r)
theorem c54:SpecOK Tryz.prog 54 ⟨as54,rs54,m54⟩ :=
 fc tabs81OK [] an54 Tryz.f54 fun x=>by kernel_rfl
def tabs54:Tabs:=Tabs.add tabs81 54 ⟨as54,rs54,m54⟩
theorem tabs54OK:TabOK Tryz.prog tabs54:=TabOK.add tabs81OK c54 Tryz.call54

/-! putlog/integer.both -/
def as30:List Ty:=[.str,.str]
def rs30:List Ty:=[(.pair .bool tL),(.pair .bool tL),.bool]
def an30:Ann:=.a
def m30:(List UInt8×List UInt8)→Option ((Bool×List Int)×(Bool×List Int)×Bool) :=
 fun x=>(m53 x.1).bind fun r=>(bif PE.notM (PE.notM r) then m53 x.2 else some false).bind fun r_1=>bif PE.orM (PE.notM r) (PE.notM r_1) then some ((false,
 []),(false,[]),false) else (m54 x.1).bind fun r_2=>(m54 x.2).bind fun r=>some ((r_2.1,r_2.2),(r.1,r.2),true)
theorem c30:SpecOK Tryz.prog 30 ⟨as30,rs30,m30⟩ :=
 fc tabs54OK [] an30 Tryz.f30 fun x=>by kernel_rfl
def tabs30:Tabs:=Tabs.add tabs54 30 ⟨as30,rs30,m30⟩
theorem tabs30OK:TabOK Tryz.prog tabs30:=TabOK.add tabs54OK c30 Tryz.call30
end
end Go.Proofs.YthdfmkpebafpoaaGreatDoor
namespace Go.Proofs.YthdfmkpebafpoaaGreatDoor
open Go Go.Abs Go.PE Go.Proofs
open Go.IntKind (wrap)
set_option maxRecDepth 100000
noncomputable section

/-! (putlog/integer.number).at -/
def as85:List Ty:=[tL,tI]
def rs85:List Ty:=[tI]
def an85:Ann:=.a
def m85:(List Int×Int)→Option (Int) :=
 fun x=>bif ltM x.2 (lenM x.1) then (idxM x.1 x.2).bind fun r=>some r else some 0
theorem c85:SpecOK Tryz.prog 85 ⟨as85,rs85,m85⟩ :=
 fc tabs30OK [] an85 Tryz.f85 fun x=>by kernel_rfl
def tabs85:Tabs:=Tabs.add tabs30 85 ⟨as85,rs85,m85⟩
theorem tabs85OK:TabOK Tryz.prog tabs85:=TabOK.add tabs30OK c85 Tryz.call85

/-! (putlog/integer.number).by -/
def as57:List Ty:=[tL,tI]
def rs57:List Ty:=[tL]
def an57:Ann:=.seq (.a) (.seq (.reg [] [] [.s [0] [],z0,z0,.r,.s [3] [3],z0] (.call [] [] (.seq (.a) (.seq (.a) (.seq (.seq (.a) (.block (.loop ⟨[(1,.r (.c (.d (.d tI)))),(7,.r (.c (.h 3))),(8,.r (.c (.d (.d tI))))],(9::ra 13 28 ([])),[(2,.gone)],[.arr tI]⟩ [(.exit 0,⟨[(7,.r (.c (.h 3)))],(1::8::9::ra 13 28 ([])),[(2,.gone)],[.arr tI]⟩)] (.seq (.a) (.seq (.block (.seq (.reg [] [] [z0,z0,.r,z0,z0,z0] (.call [] [] (.seq (.a) (.seq (.reg [0,0,3,0,15,31] (ra 0 6 ([])) [.s [0] [],z0,z0,.s [1] [],z0,z0] (.a)) (.a))) (.a))) (.seq (.a) (.seq (.join [(.norm,⟨[(1,.r (.c (.d (.d tI)))),(9,.r (.c (.d (.d tI))))],(ra 27 10 ([])),[],[]⟩)] (.a)) (.a))))) (.a)))))) (.a)))) (.a))) (.a))
def m57:(List Int×Int)→Option (List Int) :=
 fun x=>(mkM 0 (wrap IntKind.i64 (lenM x.1+1)) (nat_lit 8) 0).bind fun r=>(loopM (fun (s:Int×Int×List Int)=>bif PE.orM (ltM s.2.1 (lenM x.1))
 (PE.notM (eqM s.1 0)) then (m85 (x.1,s.2.1)).bind fun r_1=>(bif ltM (wrap IntKind.i64 (wrap IntKind.i64 (r_1*x.2)+s.1)) 0 then some ((-1),wrap
 IntKind.i64 (wrap IntKind.i64 (wrap IntKind.i64 (r_1*x.2)+s.1)+10000)) else bif leM 10000 (wrap IntKind.i64 (wrap IntKind.i64 (r_1*x.2)+s.1)) then
 (divM IntKind.i64 (wrap IntKind.i64 (wrap IntKind.i64 (r_1*x.2)+s.1)) 10000).bind fun r_2=>(remM (wrap IntKind.i64 (wrap IntKind.i64 (r_1*x.2)+s.1))
 10000).bind fun r=>some (r_2,r) else some (0,wrap IntKind.i64 (wrap IntKind.i64 (r_1*x.2)+s.1))).bind fun o=>(appM (nat_lit 8) s.2.2 [o.2]).bind fun
 r=>some (Sum.inl (o.1,wrap IntKind.i64 (s.2.1+1),r)) else some (Sum.inr s.2.2)) (0,0,r)).bind fun o=>(m81 o).bind fun r=>some r
theorem c57:SpecOK Tryz.prog 57 ⟨as57,rs57,m57⟩ :=
 fc tabs85OK [] an57 Tryz.f57 fun x=>by kernel_rfl
def tabs57:Tabs:=Tabs.add tabs85 57 ⟨as57,rs57,m57⟩
theorem tabs57OK:TabOK Tryz.prog tabs57:=TabOK.add tabs85OK c57 Tryz.call57

/-! (putlog/integer.number).plus -/
def as56:List Ty:=[tL,tL]
def rs56:List Ty:=[tL]
def an56:Ann:=.seq (.a) (.seq (.reg [] [] [.s [0] [],z0,.s [1] [],z0,z0,z0,.r,.s [3] [3],z0] (.call [] [] (.seq (.a) (.seq (.a) (.seq (.seq (.a) (.block (.loop ⟨[(1,.r (.c (.d (.d tI)))),(7,.r (.c (.h 3))),(8,.r (.c (.d (.d tI))))],(9::ra 13 28 ([])),[(2,.gone)],[.arr tI]⟩ [(.exit 0,⟨[(7,.r (.c (.h 3)))],(1::8::9::ra 13 28 ([])),[(2,.gone)],[.arr tI]⟩)] (.seq (.a) (.seq (.block (.seq (.reg [] [] [z0,z0,.r,z0,z0,z0] (.call [] [] (.seq (.a) (.seq (.reg [0,0,3,0,0,31,63,127] (ra 0 8 ([])) (.s [0] []::z0::z0::.s [1] []::za 4 ([])) (.a)) (.a))) (.a))) (.seq (.a) (.seq (.join [(.norm,⟨[(1,.r (.c (.d (.d tI)))),(9,.r (.c (.d (.d tI))))],(ra 27 10 ([])),[],[]⟩)] (.a)) (.a))))) (.a)))))) (.a)))) (.a))) (.a))
def m56:(List Int×List Int)→Option (List Int) :=
 fun x=>(mkM 0 (wrap IntKind.i64 (max (lenM x.1) (lenM x.2)+1)) (nat_lit 8) 0).bind fun r=>(loopM (fun (s:Int×Int×List Int)=>bif PE.orM (ltM s.2.1
 (max (lenM x.1) (lenM x.2))) (PE.notM (eqM s.1 0)) then (m85 (x.1,s.2.1)).bind fun r_1=>(m85 (x.2,s.2.1)).bind fun r_2=>(bif ltM (wrap IntKind.i64 (wrap
 IntKind.i64 (r_1+r_2)+s.1)) 0 then some ((-1),wrap IntKind.i64 (wrap IntKind.i64 (wrap IntKind.i64 (r_1+r_2)+s.1)+10000)) else bif leM 10000 (wrap
 IntKind.i64 (wrap IntKind.i64 (r_1+r_2)+s.1)) then (divM IntKind.i64 (wrap IntKind.i64 (wrap IntKind.i64 (r_1+r_2)+s.1)) 10000).bind fun r_3=>(remM
 (wrap IntKind.i64 (wrap IntKind.i64 (r_1+r_2)+s.1)) 10000).bind fun r=>some (r_3,r) else some (0,wrap IntKind.i64 (wrap IntKind.i64 (r_1+r_2) +
 s.1))).bind fun o=>(appM (nat_lit 8) s.2.2 [o.2]).bind fun r=>some (Sum.inl (o.1,wrap IntKind.i64 (s.2.1+1),r)) else some (Sum.inr s.2.2)) (0,0,
 r)).bind fun o=>(m81 o).bind fun r=>some r
theorem c56:SpecOK Tryz.prog 56 ⟨as56,rs56,m56⟩ :=
 fc tabs57OK [] an56 Tryz.f56 fun x=>by kernel_rfl
def tabs56:Tabs:=Tabs.add tabs57 56 ⟨as56,rs56,m56⟩
theorem tabs56OK:TabOK Tryz.prog tabs56:=TabOK.add tabs57OK c56 Tryz.call56

/-! (putlog/integer.number).times -/
def as31:List Ty:=[tL,tL]
def rs31:List Ty:=[tL]
def an31:Ann:=.seq (.a) (.seq (.a) (.seq (.seq (.reg [] [] [z0,.r] (.call [] [] (.seq (.a) (.a)) (.a))) (.block (.call [] [] (.seq (.a) (.block (.loop ⟨[(3,.r (.c (.d (.d tI))))],(ra 7 12 ([])),[(1,.box [.d (.d tL)]),(3,.lp .ready)],[]⟩ [(.exit 0,⟨[],(3::ra 7 12 ([])),[(1,.box [.d (.d tL)]),(3,.lp .ready)],[]⟩)] (.seq (.a) (.seq (.block (.seq (.reg [] [] [z0,z0,.s [2] [],z0,z0,z0,.r,z0] (.call [] [] (.seq (.a) (.block (.seq (.join [(.norm,⟨[],(ra 12 6 ([])),[(1,.box [.d (.d tL)])],[]⟩)] (.a)) (.reg [0,0,0,6,15,31] (ra 0 6 ([])) (.s [1] []::.s [0] []::za 3 (.s [1] [1]::[])) (.a))))) (.a))) (.a))) (.a)))))) (.a)))) (.a)))
def m31:(List Int×List Int)→Option (List Int) :=
 fun x=>(loopM (fun (s:Int×List Int)=>bif leM 0 s.1 then (idxM x.2 s.1).bind fun r=>(bif ltM 0 (lenM s.2) then (appM (nat_lit 8) [0] s.2).bind fun r =>
 some r else some s.2).bind fun o=>(m57 (x.1,r)).bind fun r_1=>(m56 (o,r_1)).bind fun r=>some (Sum.inl (wrap IntKind.i64 (s.1-1),r)) else some
 (Sum.inr s.2)) (wrap IntKind.i64 (lenM x.2-1),[])).bind fun o=>some o
theorem c31:SpecOK Tryz.prog 31 ⟨as31,rs31,m31⟩ :=
 fc tabs56OK [] an31 Tryz.f31 fun x=>by kernel_rfl
def tabs31:Tabs:=Tabs.add tabs56 31 ⟨as31,rs31,m31⟩
theorem tabs31OK:TabOK Tryz.prog tabs31:=TabOK.add tabs56OK c31 Tryz.call31

/-! (putlog/integer.signed).text -/
def as32:List Ty:=[(.pair .bool tL)]
def rs32:List Ty:=[.str,tI]
def an32:Ann:=.seq (.a) (.seq (.a) (.seq (.a) (.seq (.seq (.reg [] [] [z0,.s [0] [],.r] (.call [] [] (.seq (.a) (.a)) (.a))) (.block (.call [] [] (.seq (.a) (.block (.loop ⟨[(3,.r (.c (.d (.d tI))))],(ra 7 12 ([])),[(1,.bld 122 5),(3,.lp .ready)],[]⟩ [(.exit 0,⟨[],(3::ra 7 12 ([])),[(1,.bld 122 5),(3,.lp .ready)],[]⟩)] (.seq (.a) (.seq (.block (.seq (.reg [] [] [z0,z0,.s [2] [],z0,z0,z0,.r,z0] (.call [] [] (.seq (.a) (.block (.seq (.a) (.seq (.join [(.norm,⟨[(7,.r (.c (.d (.d .str))))],(ra 20 12 ([])),[],[]⟩)] (.a)) (.a))))) (.a))) (.a))) (.a)))))) (.a)))) (.a))))
def m32:(Bool×List Int)→Option (List UInt8×Int) :=
 fun x=>bif eqM (lenM x.2) 0 then some ([(48:UInt8)],0) else (loopM (fun (s:Int×List UInt8)=>bif leM 0 s.1 then (idxM x.2 s.1).bind fun r=>(bif ltM
 s.1 (wrap IntKind.i64 (lenM x.2-1)) then (rptM [(48:UInt8)] (wrap IntKind.i64 (4-lenM (itoaM r)))).bind fun r_1=>(catM r_1 (itoaM r)).bind fun r =>
 some r else some (itoaM r)).bind fun o=>(catB s.2 o).bind fun r=>some (Sum.inl (wrap IntKind.i64 (s.1-1),r)) else some (Sum.inr s.2)) (wrap IntKind.i64
 (lenM x.2-1),[])).bind fun o=>bif ltM 200 (lenM o) then some ([],30) else bif x.1 then (catM [(45:UInt8)] o).bind fun r=>some (r,0) else some (o,
 0)
theorem c32:SpecOK Tryz.prog 32 ⟨as32,rs32,m32⟩ :=
 fc tabs31OK [] an32 Tryz.f32 fun x=>by kernel_rfl
def tabs32:Tabs:=Tabs.add tabs31 32 ⟨as32,rs32,m32⟩
theorem tabs32OK:TabOK Tryz.prog tabs32:=TabOK.add tabs31OK c32 Tryz.call32

/-! putlog/integer.Mul -/
def as11:List Ty:=[.str,.str]
def rs11:List Ty:=[.str,tI]
def an11:Ann:=.seq (.a) (.seq (.a) (.seq (.a) (.seq (.reg [0,1,0,4,15,0,32,0,128,480,1023,2047,4095,4095,16383,32767] (ra 0 16 ([])) (z0::.s [0] []::z0::.s [1] []::z0::z0::.s [0] []::z0::.s [1] []::za 7 ([])) (.a)) (.a))))
def m11:(List UInt8×List UInt8)→Option (List UInt8×Int) :=
 fun x=>(m30 (x.1,x.2)).bind fun r=>bif PE.notM r.2.2 then some ([],30) else (m31 (r.1.2,r.2.1.2)).bind fun r_1=>(m32 (PE.notM (eqbM r.1.1 r.2.1.1),
 r_1)).bind fun r=>some (r.1,r.2)
theorem c11:SpecOK Tryz.prog 11 ⟨as11,rs11,m11⟩ :=
 fc tabs32OK [] an11 Tryz.f11 fun x=>by kernel_rfl
def tabs11:Tabs:=Tabs.add tabs32 11 ⟨as11,rs11,m11⟩
theorem tabs11OK:TabOK Tryz.prog tabs11:=TabOK.add tabs32OK c11 Tryz.call11

/-! cmp.Compare[int] -/
def as61:List Ty:=[tI,tI]
def rs61:List Ty:=[tI]
def an61:Ann:=.a
def m61:(Int×Int)→Option (Int) :=
 fun x=>(m92 x.1).bind fun r=>(m92 x.2).bind fun r_1=>bif r then bif r_1 then some 0 else some (-1) else bif r_1 then some 1 else bif ltM x.1 x.2 then some
 (-1) else bif ltM x.2 x.1 then some 1 else some 0
theorem c61:SpecOK Tryz.prog 61 ⟨as61,rs61,m61⟩ :=
 fc tabs11OK [] an61 Tryz.f61 fun x=>by kernel_rfl
def tabs61:Tabs:=Tabs.add tabs11 61 ⟨as61,rs61,m61⟩
theorem tabs61OK:TabOK Tryz.prog tabs61:=TabOK.add tabs11OK c61 Tryz.call61

/-! (putlog/integer.number).compare -/
def as33:List Ty:=[tL,tL]
def rs33:List Ty:=[tI]
def an33:Ann:=.seq (.a) (.seq (.a) (.seq (.seq (.reg [] [] [z0,.r] (.call [] [] (.seq (.a) (.a)) (.a))) (.block (.call [] [] (.seq (.a) (.block (.loop ⟨[(3,.r (.c (.d (.d tI))))],(ra 7 12 ([])),[(3,.lp .ready)],[]⟩ [(.exit 0,⟨[],(3::ra 7 12 ([])),[(3,.lp .ready)],[]⟩),(.ret,⟨[],(3::ra 7 12 ([])),[(1,.box [.d (.d tI)]),(3,.lp (.done .ret))],[]⟩)] (.seq (.a) (.seq (.block (.seq (.reg [] [] [z0,z0,.s [2] [],z0,z0,z0,.r,z0] (.call [] [] (.seq (.a) (.a)) (.a))) (.a))) (.a)))))) (.a)))) (.a)))
def m33:(List Int×List Int)→Option (Int) :=
 fun x=>bif PE.notM (eqM (lenM x.1) (lenM x.2)) then (m61 (lenM x.1,lenM x.2)).bind fun r=>some r else (loopM (fun (s:Int)=>bif leM 0 s then (idxM x.1
 s).bind fun r=>(idxM x.2 s).bind fun r_1=>bif PE.notM (eqM r r_1) then (idxM x.2 s).bind fun r_2=>(m61 (r,r_2)).bind fun r=>some (Sum.inr (Sum.inr
 r)) else some (Sum.inl (wrap IntKind.i64 (s-1))) else some (Sum.inr (Sum.inl ()))) (wrap IntKind.i64 (lenM x.1-1))).bind fun o=>Sum.elim (fun (t:Unit)
 => some 0) (fun (t:Int)=>some t) o
theorem c33:SpecOK Tryz.prog 33 ⟨as33,rs33,m33⟩ :=
 fc tabs61OK [] an33 Tryz.f33 fun x=>by kernel_rfl
def tabs33:Tabs:=Tabs.add tabs61 33 ⟨as33,rs33,m33⟩
theorem tabs33OK:TabOK Tryz.prog tabs33:=TabOK.add tabs61OK c33 Tryz.call33

/-! (putlog/integer.number).minus -/
def as77:List Ty:=[tL,tL]
def rs77:List Ty:=[tL]
def an77:Ann:=.seq (.a) (.seq (.reg [] [] [.s [0] [],z0,z0,.r,.s [3] [3],z0] (.call [] [] (.seq (.a) (.seq (.a) (.seq (.seq (.a) (.block (.loop ⟨[(1,.r (.c (.d (.d tI)))),(7,.r (.c (.h 3))),(8,.r (.c (.d (.d tI))))],(9::ra 13 28 ([])),[(2,.gone)],[.arr tI]⟩ [(.exit 0,⟨[(7,.r (.c (.h 3)))],(1::8::9::ra 13 28 ([])),[(2,.gone)],[.arr tI]⟩)] (.seq (.a) (.seq (.block (.seq (.reg [] [] [z0,z0,.r,z0,z0,z0] (.call [] [] (.seq (.a) (.seq (.reg [0,0,3,0,0,31,63,127] (ra 0 8 ([])) (.s [0] []::z0::z0::.s [1] []::za 4 ([])) (.a)) (.a))) (.a))) (.seq (.a) (.seq (.join [(.norm,⟨[(1,.r (.c (.d (.d tI)))),(9,.r (.c (.d (.d tI))))],(ra 27 10 ([])),[],[]⟩)] (.a)) (.a))))) (.a)))))) (.a)))) (.a))) (.a))
def m77:(List Int×List Int)→Option (List Int) :=
 fun x=>(mkM 0 (wrap IntKind.i64 (lenM x.1+1)) (nat_lit 8) 0).bind fun r=>(loopM (fun (s:Int×Int×List Int)=>bif PE.orM (ltM s.2.1 (lenM x.1))
 (PE.notM (eqM s.1 0)) then (m85 (x.1,s.2.1)).bind fun r_1=>(m85 (x.2,s.2.1)).bind fun r_2=>(bif ltM (wrap IntKind.i64 (wrap IntKind.i64 (r_1-r_2) +
 s.1)) 0 then some ((-1),wrap IntKind.i64 (wrap IntKind.i64 (wrap IntKind.i64 (r_1-r_2)+s.1)+10000)) else bif leM 10000 (wrap IntKind.i64 (wrap
 IntKind.i64 (r_1-r_2)+s.1)) then (divM IntKind.i64 (wrap IntKind.i64 (wrap IntKind.i64 (r_1-r_2)+s.1)) 10000).bind fun r_3=>(remM (wrap IntKind.i64
 (wrap IntKind.i64 (r_1-r_2)+s.1)) 10000).bind fun r=>some (r_3,r) else some (0,wrap IntKind.i64 (wrap IntKind.i64 (r_1-r_2)+s.1))).bind fun o =>
 (appM (nat_lit 8) s.2.2 [o.2]).bind fun r=>some (Sum.inl (o.1,wrap IntKind.i64 (s.2.1+1),r)) else some (Sum.inr s.2.2)) (0,0,r)).bind fun o=>(m81
 o).bind fun r=>some r
theorem c77:SpecOK Tryz.prog 77 ⟨as77,rs77,m77⟩ :=
 fc tabs33OK [] an77 Tryz.f77 fun x=>by kernel_rfl
def tabs77:Tabs:=Tabs.add tabs33 77 ⟨as77,rs77,m77⟩
theorem tabs77OK:TabOK Tryz.prog tabs77:=TabOK.add tabs33OK c77 Tryz.call77

/-! (putlog/integer.signed).plus -/
def as52:List Ty:=[(.pair .bool tL),(.pair .bool tL)]
def rs52:List Ty:=[(.pair .bool tL)]
def an52:Ann:=.seq (.a) (.seq (.block (.seq (.a) (.cond (.seq (.reg [0,1,0,4,0,16,60,127,255] (ra 0 9 ([])) [z0,.s [0] [],z0,.s [0] [],z0,.s [1] [],z0,z0,.s [2] [2]] (.a)) (.a)) (.seq (.a) (.cond (.seq (.reg [0,1,0,4,0,16,60,127,255] (ra 0 9 ([])) [z0,.s [0] [],z0,.s [0] [],z0,.s [1] [],z0,z0,.s [2] [2]] (.a)) (.a)) (.a)))))) (.seq (.reg [0,1,0,4,0,16,60,127,255] (ra 0 9 ([])) [z0,.s [1] [],z0,.s [1] [],z0,.s [0] [],z0,z0,.s [2] [2]] (.a)) (.a)))
def m52:((Bool×List Int)×Bool×List Int)→Option (Bool×List Int) :=
 fun x=>bif eqbM x.1.1 x.2.1 then (m56 (x.1.2,x.2.2)).bind fun r=>some (x.1.1,r) else (m33 (x.1.2,x.2.2)).bind fun r=>bif leM 0 r then (m77 (x.1.2,
 x.2.2)).bind fun r=>some (x.1.1,r) else (m77 (x.2.2,x.1.2)).bind fun r=>some (x.2.1,r)
theorem c52:SpecOK Tryz.prog 52 ⟨as52,rs52,m52⟩ :=
 fc tabs77OK [] an52 Tryz.f52 fun x=>by kernel_rfl
def tabs52:Tabs:=Tabs.add tabs77 52 ⟨as52,rs52,m52⟩
theorem tabs52OK:TabOK Tryz.prog tabs52:=TabOK.add tabs77OK c52 Tryz.call52

/-! putlog/integer.Add -/
def as29:List Ty:=[.str,.str]
def rs29:List Ty:=[.str,tI]
def an29:Ann:=.a
def m29:(List UInt8×List UInt8)→Option (List UInt8×Int) :=
 fun x=>(m30 (x.1,x.2)).bind fun r=>bif PE.notM r.2.2 then some ([],30) else (m52 ((r.1.1,r.1.2),r.2.1.1,r.2.1.2)).bind fun r_1=>(m32 (r_1.1,
 r_1.2)).bind fun r=>some (r.1,r.2)
theorem c29:SpecOK Tryz.prog 29 ⟨as29,rs29,m29⟩ :=
 fc tabs52OK [] an29 Tryz.f29 fun x=>by kernel_rfl
def tabs29:Tabs:=Tabs.add tabs52 29 ⟨as29,rs29,m29⟩
theorem tabs29OK:TabOK Tryz.prog tabs29:=TabOK.add tabs52OK c29 Tryz.call29

/-! putlog/putloglaw10.square -/
def as10:List Ty:=[(.pair tI (.pair (.list (.pair tI tB)) (.list tC))),tL,tI,tI]
def rs10:List Ty:=[.str]
def an10:Ann:=.seq (.a) (.seq (.a) (.seq (.seq (.a) (.block (.loop ⟨[(9,.r (.c (.d (.d .str)))),(10,.r (.c (.d (.d tI))))],(ra 11 96 ([])),[],[]⟩ [(.exit 0,⟨[(9,.r (.c (.d (.d .str))))],(ra 10 97 ([])),[],[]⟩),(.ret,⟨[(8,.r (.c (.d (.d .str))))],(ra 9 98 ([])),[],[]⟩)] (.seq (.a) (.seq (.block (.seq (.a) (.seq (.join [(.norm,⟨[(11,.r (.c (.d (.d tI))))],(12::13::ra 29 57 ([])),[],[]⟩)] (.seq (.a) (.cond (.seq (.a) (.reg [0,0,2,7,15,0,0,64,0,256,960,0,4032,8128,16352,32767,65535] (ra 0 17 ([])) (z0::z0::.s [1] []::za 4 (.s [1] []::z0::.s [1] []::za 7 ([]))) (.a))) (.seq (.a) (.reg [0,0,2,7,15,0,0,64,224,480,1023,0,0,4096,0,16384,61440,0,258048,520192,1046528,2097151,4194303] (ra 0 23 ([])) (z0::z0::.s [1] []::za 4 (.s [1] []::za 5 (.s [1] []::z0::.s [1] []::za 7 ([])))) (.a)))))) (.a)))) (.a)))))) (.a)))
def m10:((Int×(List (Int×Int×Int×Int))×List (Int×Int×Int×Int×Int))×List Int×Int×Int)→Option (List UInt8) :=
 fun x=>(loopM (fun (s:List UInt8×Int)=>bif ltM s.2 (wrap IntKind.i64 (lenM x.1.2.1+lenM x.1.2.2)) then (bif ltM s.2 (lenM x.1.2.1) then (idxM x.1.2.1
 s.2).bind fun r=>(idxM x.2.1 r.1).bind fun r_1=>(idxM [r.2.1,r.2.2.1] x.2.2.2).bind fun r=>some (wrap IntKind.i64 (r_1-wrap IntKind.i64 (x.2.2.1 *
 r))) else (idxM x.1.2.2 (wrap IntKind.i64 (s.2-lenM x.1.2.1))).bind fun r=>(idxM x.2.1 r.2.1).bind fun r_1=>(idxM x.2.1 r.1).bind fun r_2=>(idxM
 [r.2.2.1,r.2.2.2.1] x.2.2.2).bind fun r=>some (wrap IntKind.i64 (wrap IntKind.i64 (r_1-r_2)-wrap IntKind.i64 (x.2.2.1*r)))).bind fun o=>(m9 o).bind
 fun r=>(m9 o).bind fun r_1=>(m11 (r,r_1)).bind fun r_2=>(m29 (s.1,r_2.1)).bind fun r=>bif PE.orM (PE.notM (eqM r_2.2 0)) (PE.notM (eqM r.2 0)) then
 some (Sum.inr (Sum.inr [])) else some (Sum.inl (r.1,wrap IntKind.i64 (s.2+1))) else some (Sum.inr (Sum.inl s.1))) ([(48:UInt8)],0)).bind fun o =>
 Sum.elim (fun (t:List UInt8)=>some t) (fun (t:List UInt8)=>some t) o
theorem c10:SpecOK Tryz.prog 10 ⟨as10,rs10,m10⟩ :=
 fc tabs29OK [] an10 Tryz.f10 fun x=>by kernel_rfl
def tabs10:Tabs:=Tabs.add tabs29 10 ⟨as10,rs10,m10⟩
theorem tabs10OK:TabOK Tryz.prog tabs10:=TabOK.add tabs29OK c10 Tryz.call10

/-! putlog/integer.Compare -/
def as12:List Ty:=[.str,.str]
def rs12:List Ty:=[tI]
def an12:Ann:=.a
def m12:(List UInt8×List UInt8)→Option (Int) :=
 fun x=>(m30 (x.1,x.2)).bind fun r=>bif PE.notM r.2.2 then some 0 else bif PE.andM r.1.1 r.2.1.1 then (m33 (r.2.1.2,r.1.2)).bind fun r=>some r else bif
 r.1.1 then some (-1) else bif r.2.1.1 then some 1 else (m33 (r.1.2,r.2.1.2)).bind fun r=>some r
theorem c12:SpecOK Tryz.prog 12 ⟨as12,rs12,m12⟩ :=
 fc tabs10OK [] an12 Tryz.f12 fun x=>by kernel_rfl
def tabs12:Tabs:=Tabs.add tabs10 12 ⟨as12,rs12,m12⟩
theorem tabs12OK:TabOK Tryz.prog tabs12:=TabOK.add tabs10OK c12 Tryz.call12

/-! putlog/putloglaw10.NetworkLeast -/
def as3:List Ty:=[(.pair tQ (.pair tL (.pair (.list (.pair tI tB)) (.pair (.list tC) tB)))),tQ,.bool]
def rs3:List Ty:=[.bool]
def an3:Ann:=.seq (.a) (.seq (.a) (.seq (.a) (.seq (.a) (.seq (.a) (.seq (.a) (.seq (.a) (.seq (.seq (.a) (.block (.loop ⟨[(11,.r (.c (.d (.d tI))))],(ra 12 16 (ra 83 189 ([]))),[],[]⟩ [(.exit 0,⟨[],(ra 11 17 (ra 83 189 ([]))),[],[]⟩),(.ret,⟨[(6,.r (.c (.d (.d .bool))))],(ra 11 17 (ra 83 189 ([]))),[],[]⟩)] (.seq (.a) (.seq (.block (.seq (.a) (.seq (.a) (.seq (.seq (.a) (.block (.loop ⟨[(14,.r (.c (.d (.d tI))))],(15::ra 98 39 ([])),[(3,.arr tI)],[]⟩ [(.exit 2,⟨[],(14::15::ra 98 39 ([])),[(3,.arr tI)],[]⟩)] (.seq (.a) (.seq (.block (.seq (.a) (.reg [0,0,2,0,0,16,56,120,0,0,512,1792,3840,8184,0,16384,0,65536,0,262144,983040,0,4128768,8323072,16760832,33554424,67108863,134217727] (ra 0 28 ([])) (z0::z0::.s [4] []::z0::z0::.s [4] []::.s [3] []::.s [3] []::z0::z0::.s [4] []::za 4 (.s [2] []::z0::.s [4] []::z0::.s [4] []::za 6 (.s [3] []::.s [3] [3]::[]))) (.a)))) (.a)))))) (.seq (.seq (.a) (.block (.loop ⟨[(16,.r (.c (.d (.d tI))))],(17::18::ra 137 57 ([])),[(3,.arr tI)],[]⟩ [(.exit 4,⟨[],(16::17::18::ra 137 57 ([])),[(3,.arr tI)],[]⟩)] (.seq (.a) (.seq (.block (.seq (.a) (.seq (.reg [0,0,2,7,15,0,0,64,224,480,1023,0,2048,0,8192,0,32768,122880,0,516096,1040384,2095104,4194303,8388607] (ra 0 24 ([])) (z0::z0::.s [4] []::za 4 (.s [4] []::za 4 (.s [2] []::z0::.s [4] []::z0::.s [4] []::za 7 ([])))) (.a)) (.seq (.reg [0,0,2,0,0,16,56,120,0,504,1023,2047] (ra 0 12 ([])) [z0,z0,.s [4] [],z0,z0,.s [4] [],.s [3] [],.s [3] [],z0,z0,.s [3] [],.s [3] [3]] (.a)) (.reg [0,0,2,0,0,16,56,120,0,504,1023,2047] (ra 0 12 ([])) [z0,z0,.s [4] [],z0,z0,.s [4] [],.s [3] [],.s [3] [],z0,z0,.s [3] [],.s [3] [3]] (.a)))))) (.a)))))) (.seq (.a) (.seq (.seq (.a) (.block (.loop ⟨[(19,.r (.c (.h 4))),(20,.r (.c (.d (.d tI))))],(21::ra 194 38 ([])),[],[.arr tI]⟩ [(.exit 6,⟨[(19,.r (.c (.h 4)))],(20::21::ra 194 38 ([])),[],[.arr tI]⟩),(.ret,⟨[(6,.r (.c (.d (.d .bool))))],(19::20::21::ra 194 38 ([])),[],[]⟩)] (.seq (.a) (.seq (.block (.seq (.a) (.seq (.a) (.seq (.join [(.norm,⟨[(21,.r (.c (.d (.d tI))))],(ra 205 12 ([])),[],[]⟩)] (.a)) (.seq (.join [(.norm,⟨[(21,.r (.c (.d (.d tI))))],(ra 217 11 ([])),[],[]⟩)] (.seq (.a) (.cond (.reg [0,1,0,0,12,28,0,64,252,511,1023] (ra 0 11 ([])) (za 7 (.s [2] []::za 3 ([]))) (.a)) (.a)))) (.a)))))) (.a)))))) (.a)))))))) (.a)))))) (.a))))))))
def m3:(((List (Int×Int))×List Int×(List (Int×Int×Int×Int))×(List (Int×Int×Int×Int×Int))×Int×Int×Int)×(List (Int×Int))×Bool)→Option (Bool) :=
 fun x=>(m4 ()).bind fun r=>bif PE.notM r then some false else (m5 (x.1.1,x.1.2.1,x.1.2.2.1,x.1.2.2.2.1,x.1.2.2.2.2.1,x.1.2.2.2.2.2.1,
 x.1.2.2.2.2.2.2)).bind fun r_1=>(m6 (r_1.1,r_1.2.1,r_1.2.2)).bind fun r_2=>(m7 (r_1.1,r_1.2.1,r_1.2.2)).bind fun r_3=>bif PE.notM r_3 then some
 (PE.andM (PE.andM (PE.andM (eqM r_2.2 100) (eqM (lenM r_2.1.1) 0)) (eqM (lenM r_2.1.2.1) 0)) (eqM r_2.1.2.2 0)) else bif PE.orM (PE.orM (PE.orM (PE.notM (eqM
 r_2.2 0)) (ltM r_2.1.2.2 1)) (PE.notM (eqM (lenM r_2.1.1) r_1.1))) (PE.notM (eqM (lenM r_2.1.2.1) r_1.1)) then some false else (loopM (fun (s:Int)=>bif
 ltM s 2 then (idxM [r_2.1.1,r_2.1.2.1] s).bind fun r_4=>(mkM r_1.1 r_1.1 (nat_lit 8) 0).bind fun r_5=>(loopM (fun (s_1:Int×List Int)=>bif ltM s_1.1
 (lenM r_1.2.1) then (idxM r_1.2.1 s_1.1).bind fun r_6=>(chkM r_6.1 (lenM s_1.2)).bind fun r_7=>(idxM s_1.2 r_6.1).bind fun r_8=>(idxM r_4 r_6.1).bind
 fun r_9=>(idxM [r_6.2.1,r_6.2.2.1] s).bind fun r_10=>(chkM r_6.1 (lenM s_1.2)).bind fun r_11=>(setM s_1.2 r_6.1 fun (x:Int)=>some (wrap IntKind.i64
 (wrap IntKind.i64 (r_8+r_9)-wrap IntKind.i64 (r_2.1.2.2*r_10)))).bind fun r=>some (Sum.inl (wrap IntKind.i64 (s_1.1+1),r)) else some (Sum.inr
 s_1.2)) (0,r_5)).bind fun o=>(loopM (fun (s_1:Int×List Int)=>bif ltM s_1.1 (lenM r_1.2.2) then (idxM r_1.2.2 s_1.1).bind fun r_6=>(idxM r_4
 r_6.2.1).bind fun r_7=>(idxM r_4 r_6.1).bind fun r_8=>(idxM [r_6.2.2.1,r_6.2.2.2.1] s).bind fun r_9=>(chkM r_6.2.1 (lenM s_1.2)).bind fun r_10=>(idxM
 s_1.2 r_6.2.1).bind fun r_11=>(chkM r_6.2.1 (lenM s_1.2)).bind fun r_12=>(setM s_1.2 r_6.2.1 fun (x:Int)=>some (wrap IntKind.i64 (r_11+wrap
 IntKind.i64 (wrap IntKind.i64 (r_7-r_8)-wrap IntKind.i64 (r_2.1.2.2*r_9))))).bind fun r_13=>(chkM r_6.1 (lenM r_13)).bind fun r_14=>(idxM r_13
 r_6.1).bind fun r_15=>(chkM r_6.1 (lenM r_13)).bind fun r_16=>(setM r_13 r_6.1 fun (x:Int)=>some (wrap IntKind.i64 (r_15-wrap IntKind.i64 (wrap
 IntKind.i64 (r_7-r_8)-wrap IntKind.i64 (r_2.1.2.2*r_9))))).bind fun r=>some (Sum.inl (wrap IntKind.i64 (s_1.1+1),r)) else some (Sum.inr s_1.2)) (0,
 o)).bind fun o_1=>(loopM (fun (s_1:Int×List Int)=>bif ltM s_1.1 r_1.1 then (chkM s_1.1 (lenM o_1)).bind fun r_6=>(idxM o_1 s_1.1).bind fun r_7 =>
 bif PE.notM (eqM r_7 0) then some (Sum.inr (Sum.inr false)) else (bif ltM s_1.1 (lenM x.2.1) then (idxM x.2.1 s_1.1).bind fun r_8=>(idxM [r_8.1,r_8.2]
 s).bind fun r_9=>(m8 (r_9,2001)).bind fun r=>some (wrap IntKind.i64 (r-1000)) else some 0).bind fun o_2=>(bif x.2.2 then (divM IntKind.i64 o_2
 400).bind fun r_8=>(idxM r_4 s_1.1).bind fun r_9=>(divM IntKind.i64 r_9 r_2.1.2.2).bind fun r=>some (wrap IntKind.i64 (r_8+r)) else some o_2).bind fun
 o_3=>(appM (nat_lit 8) s_1.2 [o_3]).bind fun r=>some (Sum.inl (wrap IntKind.i64 (s_1.1+1),r)) else some (Sum.inr (Sum.inl s_1.2))) (0,[])).bind fun
 o_2=>Sum.elim (fun (t:List Int)=>(m9 r_2.1.2.2).bind fun r_6=>(m10 ((r_1.1,r_1.2.1,r_1.2.2),r_4,r_2.1.2.2,s)).bind fun r_7=>(m10 ((r_1.1,
 r_1.2.1,r_1.2.2),t,1,s)).bind fun r_8=>(m11 (r_8,r_6)).bind fun r_9=>(m11 (r_9.1,r_6)).bind fun r_10=>(bif PE.notM (PE.orM (PE.orM (PE.notM (eqM
 r_9.2 0)) (PE.notM (eqM r_10.2 0))) (eqsM r_7 [])) then m12 (r_7,r_10.1) else some 0).bind fun r=>bif PE.orM (PE.orM (PE.orM (PE.notM (eqM r_9.2 0))
 (PE.notM (eqM r_10.2 0))) (eqsM r_7 [])) (ltM 0 r) then some (Sum.inr (Sum.inr false)) else some (Sum.inl (wrap IntKind.i64 (s+1)))) (fun (t:Bool)=>some
 (Sum.inr (Sum.inr t))) o_2 else some (Sum.inr (Sum.inl ()))) 0).bind fun o=>Sum.elim (fun (t:Unit)=>some r) (fun (t:Bool)=>some t) o
theorem c3:SpecOK Tryz.prog 3 ⟨as3,rs3,m3⟩ :=
 fc tabs12OK [] an3 Tryz.f3 fun x=>by kernel_rfl
def tabs3:Tabs:=Tabs.add tabs12 3 ⟨as3,rs3,m3⟩
theorem tabs3OK:TabOK Tryz.prog tabs3:=TabOK.add tabs12OK c3 Tryz.call3
end
end Go.Proofs.YthdfmkpebafpoaaGreatDoor
namespace Go.PE
def Le {α:Type} (a b:Option α):Prop:=∀ r,a=some r→b=some r
theorem Le.refl {α:Type} (a:Option α):Le a a:=fun _ h=>h
theorem Le.bind {α β:Type} {a a':Option α} {f f':α→Option β} (h:Le a a') (hf:∀ x,Le (f x) (f' x)):Le (Option.bind a f) (Option.bind a' f'):=by
 intro r hr
 cases a with
 | none=>cases hr
 | some x =>
  rw [h x rfl]
  exact hf x r hr
theorem Le.cond {α:Type} {c:Bool} {a a' b b':Option α} (h:Le a a') (h':Le b b'):Le (cond c a b) (cond c a' b'):=by
 cases c
 ·exact h'
 ·exact h
theorem Le.elim {α β γ:Type} {f f':α→Option γ} {g g':β→Option γ} (hf:∀ x,Le (f x) (f' x)) (hg:∀ x,Le (g x) (g' x)) (x:α⊕β):Le (Sum.elim f g x) (Sum.elim f' g' x):=by
 cases x with
 | inl a=>exact hf a
 | inr b=>exact hg b
theorem Le.iter {σ β:Type} {body body':σ→Option (σ⊕β)} (h:∀ s,Le (body s) (body' s)):∀ (n:Nat) (s:σ),Le (iterM body n s) (iterM body' n s)
 | 0,_=>Le.refl _
 | n+1,s=>by
  unfold iterM
  exact Le.bind (h s) fun x=>Le.elim (Le.iter h n) (fun _=>Le.refl _) x
def loopF {σ β:Type} (body:σ→Option (σ⊕β)) (s:σ):Option β:=iterM body 4096 s
theorem Le.loop {σ β:Type} {body body':σ→Option (σ⊕β)} (h:∀ s,Le (body s) (body' s)) (s:σ):Le (loopF body s) (loopM body' s) :=
 fun r hr=>loopM_iff.2 ⟨4096,Le.iter h 4096 s r hr⟩
def nilF {α β:Type} (xs:List α) (a b:Option β):Option β:=match xs with
 | []=>none
 | _::_=>b
theorem Le.nil {α β:Type} {xs:List α} {a a' b b':Option β} (h:Le b b'):Le (nilF xs a b) (nilM xs a' b'):=by
 cases xs with
 | nil=>intro r hr;cases hr
 | cons x xs=>exact h
theorem Le.out {α:Type} {a b:Option α} (h:Le a b) {r:α} (e:a=some r):b=some r:=h r e
attribute [irreducible] Le
end Go.PE
namespace Go.PE
open Go Go.Abs
def InR:(t:Ty)→t.den→Prop
 | .int k,x=>k.has x
 | .bool,_=>True
 | .str,x=>List.length x≤maxLen
 | .list t,xs=>List.length xs≤maxLen∧∀ (i:Nat) (x:t.den),xs[i]? = some x→InR t x
 | .one t,x=>InR t x
 | .pair a b,x=>InR a x.1∧InR b x.2
def OkT:(l:List Ty)→Tup (l.map .d)→Prop
 | [],_=>True
 | [t],x=>InR t x
 | t::u::r,x=>InR t x.1∧OkT (u::r) x.2
section
variable {S:Cells} {w:World} {η:Eta}
theorem Rep.ok:∀ {t:Ty} {x:t.den} {cs:List Value},Rep S w t x cs→InR t x
 | .int _,_,_,h=>h.2
 | .bool,_,_,_=>trivial
 | .str,_,_,h=>h.2
 | .list t,xs,_,h=>by
  obtain ⟨base,cap,rfl,h1,h2,h3⟩:=h
  refine ⟨Nat.le_trans h1 h2,fun i x hx=>?_⟩
  rcases h3 with h3 | ⟨b,off,_,h3⟩
  ·have:xs=[]:=List.length_eq_zero_iff.1 h3
   rw [this] at hx
   cases hx
  ·obtain ⟨es,h4,_⟩:=h3 i x hx
   exact Rep.ok h4
 | .one t,x,cs,h=>by
  have h':Rep S w t x cs:=h
  exact Rep.ok (t:=t) h'
 | .pair a b,x,cs,h=>by
  obtain ⟨c1,c2,rfl,h1,h2⟩:=h
  exact ⟨Rep.ok h1,Rep.ok h2⟩
theorem cv_ok:∀ {t:Ty} {x:t.den} {vs:List Value},All2 (CM S w η) (t.cv x) vs→InR t x
 | .int _,_,_,.cons h .nil=>let ⟨_,a,_⟩:=h.2;Rep.ok a
 | .bool,_,_,_=>trivial
 | .str,_,_,.cons h .nil=>let ⟨_,a,_⟩:=h.2;Rep.ok a
 | .list _,_,_,.cons h .nil=>let ⟨_,a,_⟩:=h.2;Rep.ok a
 | .one t,x,vs,h=>by
  have h':All2 (CM S w η) (t.cv x) vs:=h
  exact cv_ok (t:=t) h'
 | .pair a b,x,vs,h=>by
  have h':All2 (CM S w η) (a.cv x.1++b.cv x.2) vs:=h
  obtain ⟨b1,b2,rfl,h1,h2⟩:=All2.split h'
  exact ⟨cv_ok h1,cv_ok h2⟩
theorem rv_ok {t:Ty} {x:t.den} {v:Value} (h:RM S w η (t.rv x) v):InR t x:=by
 unfold Ty.rv at h
 split at h
 ·obtain ⟨vs,_,h2⟩:=h
  exact cv_ok h2
 ·obtain ⟨_,cs,h2,_⟩:=h
  exact Rep.ok h2
theorem rvs_ok:∀ {l:List Ty} {x:Tup (l.map .d)} {vs:List Value},All2 (RM S w η) (rvs l x) vs→OkT l x
 | [],_,_,_=>trivial
 | [t],x,_,.cons h .nil=>rv_ok h
 | t::u::r,x,_,h=>by
  have h':All2 (RM S w η) (t.rv x.1::rvs (u::r) x.2) _:=h
  cases h' with
  | cons h1 h2=>exact ⟨rv_ok h1,rvs_ok (l:=u::r) h2⟩
end
theorem law_of_ok {args:List Ty} {m:Tup (args.map .d)→Option Bool} (h:∀ x,OkT args x→m x=some true) :
  ∀ (S:Cells) (w:World) (η:Eta) (vs:List Value) x,All2 (RM S w η) (rvs args x) vs→m x=some true:=fun _ _ _ _ x hx=>h x (rvs_ok hx)

theorem wrap_in {n:Int} (h1:-9223372036854775808≤n) (h2:n≤9223372036854775807):IntKind.wrap IntKind.i64 n=n:=Go.IntWalk.i64_in n ⟨h1,h2⟩
theorem idxM_nat {α:Type} (xs:List α) (i:Nat):idxM xs (i:Int)=xs[i]? := by
 unfold idxM
 rw [decide_eq_true (by omega:(0:Int)≤i)]
 simp
theorem idxM_lt {α:Type} {xs:List α} {i:Nat} (h:i<xs.length):idxM xs (i:Int)=some xs[i]:=by
 rw [idxM_nat,List.getElem?_eq_getElem h]
theorem idxM_of {α:Type} {xs:List α} {i:Int} (h0:0≤i) (h:i<xs.length):idxM xs i=some (xs[i.toNat]'(by omega)):=by
 unfold idxM
 rw [decide_eq_true h0]
 exact List.getElem?_eq_getElem _
theorem chkM_of {i n:Int} (h0:0≤i) (h:i<n):chkM i n=some ():=by
 unfold chkM
 rw [decide_eq_true h0,decide_eq_true h]
theorem appM_of {α:Type} {b:Nat} {xs ys:List α} (h:(xs.length+ys.length)*b≤140737488355328):appM b xs ys=some (xs++ys):=by
 unfold appM
 rw [decide_eq_true h]
theorem mkM_of {α:Type} {n c:Int} {b:Nat} {d:α} (h0:0≤n) (h:n≤c) (hb:c*b≤140737488355328):mkM n c b d=some (List.replicate n.toNat d):=by
 unfold mkM
 rw [decide_eq_true h0,decide_eq_true h,decide_eq_true hb]
theorem setM_of {α:Type} {xs:List α} {i:Int} {f:α→Option α} {y:α} (h0:0≤i) (h:i<xs.length) (hy:f (xs[i.toNat]'(by omega))=some y):setM xs i f=some (xs.set i.toNat y):=by
 unfold setM
 rw [idxM_of h0 h]
 simp only [hy]
theorem sliceM_of {α:Type} {xs:List α} {lo hi:Int} (h0:0≤lo) (h:lo≤hi) (h2:hi≤xs.length):sliceM xs lo hi=some ((xs.take hi.toNat).drop lo.toNat):=by
 unfold sliceM
 rw [decide_eq_true h0,decide_eq_true h,decide_eq_true h2]
theorem loopM_inv {σ β:Type} {body:σ→Option (σ⊕β)} (P:Nat→σ→Prop) (Q:β→Prop) (n:Nat)
  (h:∀ k s,k≤n→P k s→(∃ s',k<n∧body s=some (.inl s')∧P (k+1) s')∨∃ r,body s=some (.inr r)∧Q r) :
  ∀ (m k:Nat) (s:σ),n-k=m→k≤n→P k s→∃ r,loopM body s=some r∧Q r:=by
 intro m
 induction m with
 | zero =>
  intro k s hm hk hP
  rcases h k s hk hP with ⟨s',hlt,_⟩ | ⟨r,h1,h2⟩
  ·omega
  ·exact ⟨r,by rw [loopM_eq,h1];rfl,h2⟩
 | succ m ih =>
  intro k s hm hk hP
  rcases h k s hk hP with ⟨s',hlt,h1,h2⟩ | ⟨r,h1,h2⟩
  ·obtain ⟨r,h3,h4⟩:=ih (k+1) s' (by omega) (by omega) h2
   exact ⟨r,by rw [loopM_eq,h1];exact h3,h4⟩
  ·exact ⟨r,by rw [loopM_eq,h1];rfl,h2⟩
theorem loopM_from {σ β:Type} {body:σ→Option (σ⊕β)} (P:Nat→σ→Prop) (Q:β→Prop) (n:Nat) {s:σ} (h0:P 0 s)
  (h:∀ k s,k≤n→P k s→(∃ s',k<n∧body s=some (.inl s')∧P (k+1) s')∨∃ r,body s=some (.inr r)∧Q r):∃ r,loopM body s=some r∧Q r :=
 loopM_inv P Q n h n 0 s (by omega) (by omega) h0
theorem loopM_fn {σ β:Type} {body:σ→Option (σ⊕β)} (g:Nat→σ) (n:Nat) {r:β} (h:∀ k,k<n→body (g k)=some (.inl (g (k+1)))) (he:body (g n)=some (.inr r)):loopM body (g 0)=some r:=by
 obtain ⟨r',h1,h2⟩:=loopM_from (body:=body) (fun k s=>s=g k) (fun x=>x=r) n (s:=g 0) rfl fun k s hk hs=>by
  subst hs
  by_cases hlt:k<n
  ·exact .inl ⟨_,hlt,h k hlt,rfl⟩
  ·have:k=n:=by omega
   subst this
   exact .inr ⟨r,he,rfl⟩
 rw [h1,h2]
theorem find_loop {α:Type} {xs:List α} (p:α→Bool) {body:Int→Option (Int⊕(Unit⊕Int))}
  (hb:∀ k (hk:k<xs.length),body (k:Int)=some (bif p xs[k] then .inr (.inr (k:Int)) else .inl ((k:Int)+1))) (he:body (xs.length:Int)=some (.inr (.inl ()))) :
  ∃ o,loopM body 0=some o∧((o=.inl ()∧∀ k (hk:k<xs.length),p xs[k]=false)∨∃ k,∃ hk:k<xs.length,o=.inr (k:Int)∧p xs[k]=true∧∀ j (hj:j<k),p (xs[j]'(by omega))=false):=by
 refine loopM_from (fun k s=>s=(k:Int)∧∀ j (hj:j<xs.length),j<k→p xs[j]=false) _ xs.length (s:=0) ⟨rfl,fun j _ hj=>by omega⟩ fun k s hk ⟨hs,hP⟩=>?_
 subst hs
 by_cases hlt:k<xs.length
 ·cases hp:p xs[k] with
  | true=>exact .inr ⟨.inr (k:Int),by rw [hb k hlt,hp];rfl,.inr ⟨k,hlt,rfl,hp,fun j hj=>hP j (by omega) hj⟩⟩
  | false =>
   refine .inl ⟨((k+1:Nat):Int),hlt,by rw [hb k hlt,hp];rfl,rfl,fun j hj hjk=>?_⟩
   by_cases e:j=k
   ·subst e;exact hp
   ·exact hP j hj (by omega)
 ·have:k=xs.length:=by omega
  subst this
  exact .inr ⟨_,he,.inl ⟨rfl,fun j hj=>hP j hj hj⟩⟩
theorem any_loop {α:Type} {xs:List α} (p:α→Bool) {body:Int→Option (Int⊕(Unit⊕Int))}
  (hb:∀ k (hk:k<xs.length),body (k:Int)=some (bif p xs[k] then .inr (.inr (k:Int)) else .inl ((k:Int)+1))) (he:body (xs.length:Int)=some (.inr (.inl ()))) :
  Option.bind (Option.bind (loopM body 0) (fun o=>Sum.elim (fun _=>some (-1:Int)) (fun t=>some t) o)) (fun ov=>some (leM 0 ov))=some (xs.any p):=by
 obtain ⟨o,h1,h2⟩:=find_loop p hb he
 rw [h1]
 rcases h2 with ⟨rfl,h2⟩ | ⟨k,hk,rfl,h2,_⟩
 ·have:xs.any p=false:=by
   rw [List.any_eq_false]
   intro x hx
   obtain ⟨i,hi,rfl⟩:=List.mem_iff_getElem.1 hx
   simp [h2 i hi]
  rw [this]
  rfl
 ·have:xs.any p=true:=List.any_eq_true.2 ⟨_,List.getElem_mem hk,h2⟩
  rw [this]
  show some (decide ((0:Int)≤(k:Int)))=some true
  rw [decide_eq_true (by omega)]
end Go.PE
namespace Go.PE
open Go Go.Abs
def row {α:Type} (m:Nat) (g:Nat→α):List α:=(List.range m).map g
def upd {α:Type} (d:Nat→Nat→α) (i j:Nat) (y:α):Nat→Nat→α:=fun a b=>if a=i∧b=j then y else d a b
section
variable {α:Type}
theorem row_length (m:Nat) (g:Nat→α):(row m g).length=m:=by simp [row]
theorem row_get {m:Nat} {g:Nat→α} {i:Nat} (h:i<m):(row m g)[i]? = some (g i):=by simp [row,h]
theorem row_idx {m:Nat} {g:Nat→α} {i:Nat} (h:i<m):idxM (row m g) (i:Int)=some (g i):=by rw [idxM_nat,row_get h]
theorem row_congr {m:Nat} {g g':Nat→α} (h:∀ i,i<m→g i=g' i):row m g=row m g':=by
 unfold row
 exact List.map_congr_left fun i hi=>h i (List.mem_range.1 hi)
theorem row_set {m:Nat} {g:Nat→α} {i:Nat} (h:i<m) (y:α):(row m g).set i y=row m fun a=>if a=i then y else g a:=by
 apply List.ext_getElem?
 intro k
 rw [List.getElem?_set]
 by_cases hk:k<m
 ·by_cases e:i=k
  ·subst e
   rw [if_pos rfl,if_pos (by rw [row_length];exact h),row_get h,if_pos rfl]
  ·have e':¬ k=i:=fun x=>e x.symm
   simp [e,e',row_get hk]
 ·have h1:i≠k:=by omega
  rw [if_neg h1,List.getElem?_eq_none (by rw [row_length];omega),List.getElem?_eq_none (by rw [row_length];omega)]
theorem row_succ (m:Nat) (g:Nat→α):row (m+1) g=row m g++[g m]:=by simp [row,List.range_succ]
theorem row_zero (g:Nat→α):row 0 g=[]:=rfl
theorem replicate_row (n:Nat) (y:α):List.replicate n y=row n fun _=>y:=by
 apply List.ext_getElem?
 intro k
 by_cases hk:k<n
 ·rw [row_get hk];simp [hk]
 ·rw [List.getElem?_eq_none (by simp;omega),List.getElem?_eq_none (by rw [row_length];omega)]
end
theorem bind_of {α β:Type} {o:Option α} {x:α} {f:α→Option β} {r:Option β} (h:o=some x) (h2:f x=r):Option.bind o f=r:=by
 rw [h];exact h2
theorem loopM_is {σ β:Type} {body:σ→Option (σ⊕β)} {s:σ} {r:β} (P:Nat→σ→Prop) (n:Nat) (h0:P 0 s)
  (h:∀ k s,k≤n→P k s→(∃ s',k<n∧body s=some (.inl s')∧P (k+1) s')∨body s=some (.inr r)):loopM body s=some r:=by
 obtain ⟨r',h1,h2⟩:=loopM_from P (fun x=>x=r) n h0 fun k s hk hP=>by
  rcases h k s hk hP with h | h
  ·exact .inl h
  ·exact .inr ⟨r,h,rfl⟩
 rw [h1,h2]
theorem count_loop {σ β:Type} {body:Int×σ→Option ((Int×σ)⊕β)} (g:Nat→σ) (n:Nat) {r:β} (h:∀ k,k<n→body ((k:Int),g k)=some (.inl ((k:Int)+1,g (k+1)))) (he:body ((n:Int),g n)=some (.inr r)) :
  loopM body ((0:Int),g 0)=some r :=
 loopM_fn (fun k=>((k:Int),g k)) n (fun k hk=>h k hk) he
end Go.PE
namespace Go.PE
open Go Go.Abs
def Ans {α:Type} (o:Option α) (Q:α→Prop):Prop:=∃ r,o=some r∧Q r
theorem Ans.is {α:Type} {o:Option α} {r:α} (h:Ans o (fun x=>x=r)):o=some r:=by
 obtain ⟨x,h1,h2⟩:=h
 rw [h1,h2]
theorem Ans.of {α:Type} {o:Option α} {r:α} {Q:α→Prop} (h:o=some r) (hQ:Q r):Ans o Q:=⟨r,h,hQ⟩
theorem Ans.some {α:Type} {r:α} {Q:α→Prop} (hQ:Q r):Ans (some r) Q:=⟨r,rfl,hQ⟩
theorem Ans.mono {α:Type} {o:Option α} {P Q:α→Prop} (h:Ans o P) (hQ:∀ x,P x→Q x):Ans o Q:=by
 obtain ⟨x,h1,h2⟩:=h
 exact ⟨x,h1,hQ x h2⟩
theorem Ans.bind {α β:Type} {o:Option α} {f:α→Option β} {P:α→Prop} {Q:β→Prop} (h:Ans o P) (hf:∀ x,P x→Ans (f x) Q):Ans (Option.bind o f) Q:=by
 obtain ⟨x,h1,h2⟩:=h
 rw [h1]
 exact hf x h2
theorem Ans.seq {α β:Type} {o:Option α} {f:α→Option β} {x:α} {Q:β→Prop} (h:o=Option.some x) (hf:Ans (f x) Q):Ans (Option.bind o f) Q:=by
 rw [h]
 exact hf
theorem Ans.cond {α:Type} {c:Bool} {a b:Option α} {Q:α→Prop} (ht:c=true→Ans a Q) (hf:c=false→Ans b Q):Ans (bif c then a else b) Q:=by
 cases c
 ·exact hf rfl
 ·exact ht rfl
def Nxt {σ β:Type} (P:σ→Prop) (Q:β→Prop):σ⊕β→Prop
 | .inl s=>P s
 | .inr r=>Q r
theorem Ans.loop {σ β:Type} {body:σ→Option (σ⊕β)} {s:σ} {Q:β→Prop} (P:Nat→σ→Prop) (n:Nat) (h0:P 0 s)
  (h:∀ k s,k≤n→P k s→Ans (body s) (Nxt (fun s'=>k<n∧P (k+1) s') Q)):Ans (loopM body s) Q:=by
 refine loopM_from P Q n h0 fun k s hk hP=>?_
 obtain ⟨o,h1,h2⟩:=h k s hk hP
 cases o with
 | inl s'=>exact .inl ⟨s',h2.1,h1,h2.2⟩
 | inr r=>exact .inr ⟨r,h1,h2⟩
theorem ltI {a b:Int} (h:a<b):ltM a b=true:=decide_eq_true h
theorem geI {a b:Int} (h:b≤a):ltM a b=false:=decide_eq_false (by omega)
theorem leI {a b:Int} (h:a≤b):leM a b=true:=decide_eq_true h
theorem gtI {a b:Int} (h:b<a):leM a b=false:=decide_eq_false (by omega)
theorem eqI {a b:Int} (h:a=b):eqM a b=true:=decide_eq_true h
theorem neI {a b:Int} (h:a≠b):eqM a b=false:=decide_eq_false h
theorem notT:notM true=false:=rfl
theorem notF:notM false=true:=rfl
theorem orT (b:Bool):orM true b=true:=rfl
theorem orF (b:Bool):orM false b=b:=rfl
theorem andT (b:Bool):andM true b=b:=rfl
theorem andF (b:Bool):andM false b=false:=rfl
def pk (c n:Int):Int:=(if c<0 then -(c+1) else c) % n
theorem pk_lo {c n:Int} (h:0<n):0≤pk c n:=Int.emod_nonneg _ (by omega)
theorem pk_hi {c n:Int} (h:0<n):pk c n<n:=Int.emod_lt_of_pos _ h
theorem remM_of {a b:Int} (ha:0≤a) (hb:0<b):remM a b=some (a % b):=by
 unfold remM
 rw [decide_eq_false (by omega)]
 show some (a.tmod b)=some (a % b)
 rw [Int.tmod_eq_emod_of_nonneg ha]
theorem divM_pos {k:IntKind} {a b:Int} (hb:b≠0):divM k a b=some (k.wrap (a.tdiv b)):=by
 unfold divM
 rw [decide_eq_false hb]
theorem pk_text {c n:Int} (hc:IntKind.i64.has c) (hn:0<n) :
  Option.bind (bif ltM c (0:Int) then some (IntKind.wrap IntKind.i64 (negM (IntKind.wrap IntKind.i64 (c+(1:Int))))) else some c) (fun (o:Int)=>Option.bind (remM o n) fun (r:Int)=>some r)=some (pk c n):=by
 have hc':-9223372036854775808≤c∧c≤9223372036854775807:=hc
 unfold pk
 by_cases h:c<0
 ·rw [ltI h,cond_true,Option.bind_some,if_pos h,wrap_in (n:=c+1) (by omega) (by omega)]
  unfold negM
  rw [wrap_in (by omega) (by omega),remM_of (by omega) hn]
  rfl
 ·rw [geI (by omega),cond_false,Option.bind_some,if_neg h,remM_of (by omega) hn]
  rfl
theorem app_row {α:Type} {b m:Nat} {g:Nat→α} (hb:(m+1)*b≤140737488355328):appM b (row m g) [g m]=some (row (m+1) g):=by
 rw [appM_of (by rw [row_length];simpa using hb),row_succ]
theorem app_rowOf {α:Type} {b m:Nat} {g:Nat→α} {y:α} (hy:y=g m) (hb:(m+1)*b≤140737488355328):appM b (row m g) [y]=some (row (m+1) g):=by
 rw [hy,app_row hb]
end Go.PE
namespace Go.Proofs.YthdfmkpebafpoaaGreatDoor
open Go Go.Abs Go.PE
def bnd (n:Int) (c:Int×Int×Int):Bool:=decide (0≤c.1∧c.1<n∧0≤c.2.1∧c.2.1<n∧-1000000000≤c.2.2∧c.2.2≤1000000000)
def sys (x:Int×List (Int×Int×Int)):Bool:=decide (0≤x.1∧x.1≤16∧x.2.length≤60)&&x.2.all (bnd x.1)
end Go.Proofs.YthdfmkpebafpoaaGreatDoor
namespace Go.Proofs.YthdfmkpebafpoaaGreatDoor
open Go Go.Abs Go.PE
def d0 (i j:Nat):Int:=if i=j then 0 else 1152921504606846976
end Go.Proofs.YthdfmkpebafpoaaGreatDoor
namespace Go.Proofs.YthdfmkpebafpoaaGreatDoor
open Go Go.Abs Go.PE
abbrev Tab:=Nat→Nat→Int
def addB (d:Tab) (c:Int×Int×Int):Tab:=upd d c.1.toNat c.2.1.toNat (min (d c.1.toNat c.2.1.toNat) c.2.2)
def pl (a b:Int):Int:=if a=1152921504606846976∨b=1152921504606846976 then 1152921504606846976 else IntKind.wrap IntKind.i64 (a+b)
def cell (k:Nat) (rk:Nat→Int) (i j:Nat) (d:Tab):Tab:=upd d i j (min (d i j) (pl (d i k) (rk j)))
def cells (k:Nat) (rk:Nat→Int) (i:Nat) (d:Tab):Nat→Tab
 | 0=>d
 | j+1=>cell k rk i j (cells k rk i d j)
def rows (n k:Nat) (rk:Nat→Int) (d:Tab):Nat→Tab
 | 0=>d
 | i+1=>cells k rk i (rows n k rk d i) n
def rounds (n:Nat) (d:Tab):Nat→Tab
 | 0=>d
 | k+1=>rows n k (rounds n d k k) (rounds n d k) n
def fw (n:Nat) (bs:List (Int×Int×Int)):Tab:=rounds n (bs.foldl addB d0) n
theorem bnd_of {n:Nat} {c:Int×Int×Int} (h:bnd (n:Int) c=true):∃ a b:Nat,a<n∧b<n∧c.1=a∧c.2.1=b∧-1000000000≤c.2.2∧c.2.2≤1000000000:=by
 have h:=of_decide_eq_true h
 exact ⟨c.1.toNat,c.2.1.toNat,by omega,by omega,by omega,by omega,by omega,by omega⟩
end Go.Proofs.YthdfmkpebafpoaaGreatDoor
namespace Go.Proofs.YthdfmkpebafpoaaGreatDoor
open Go Go.Abs Go.PE
def ovl (d:Tab):Nat→Bool
 | 0=>false
 | i+1=>ovl d i||decide (d i i<0)
theorem ovl_iff (d:Tab):∀ n,ovl d n=true↔∃ i,i<n∧d i i<0
 | 0=>by simp [ovl]
 | n+1=>by
  simp only [ovl,Bool.or_eq_true,decide_eq_true_eq,ovl_iff d n]
  constructor
  ·rintro (⟨i,h1,h2⟩ | h)
   ·exact ⟨i,by omega,h2⟩
   ·exact ⟨n,by omega,h⟩
  ·rintro ⟨i,h1,h2⟩
   by_cases e:i=n
   ·subst e;exact .inr h2
   ·exact .inl ⟨i,by omega,h2⟩
end Go.Proofs.YthdfmkpebafpoaaGreatDoor
namespace Go.Proofs.YthdfmkpebafpoaaGreatDoor
open Go Go.Abs Go.PE
end Go.Proofs.YthdfmkpebafpoaaGreatDoor
namespace Go.Proofs.YthdfmkpebafpoaaGreatDoor
open Go Go.Abs Go.PE
inductive Wk (bs:List (Int×Int×Int)):Nat→Nat→Int→Prop
 | nil (i:Nat):Wk bs i i 0
 | snoc {i a b:Nat} {w m:Int}:Wk bs i a w→((a:Int),(b:Int),m)∈bs→Wk bs i b (w+m)
theorem Wk.trans {bs:List (Int×Int×Int)} {i j k:Nat} {v w:Int} (h:Wk bs i j v) (h2:Wk bs j k w):Wk bs i k (v+w):=by
 induction h2 with
 | nil=>simpa using h
 | snoc _ hm ih=>rw [← Int.add_assoc];exact ih.snoc hm
def Ent (bs:List (Int×Int×Int)) (B:Int) (i j:Nat) (x:Int):Prop:=x=1152921504606846976∨(-B≤x∧x≤B∧Wk bs i j x)
theorem Ent.mono {bs:List (Int×Int×Int)} {B B':Int} {i j:Nat} {x:Int} (hB:B≤B') (h:Ent bs B i j x):Ent bs B' i j x:=by
 rcases h with h | ⟨h1,h2,h3⟩
 ·exact .inl h
 ·exact .inr ⟨by omega,by omega,h3⟩
theorem Ent.pl {bs:List (Int×Int×Int)} {A B:Int} {i k j:Nat} {x y:Int} (hA:A+B≤1000000000000000000) (h:Ent bs A i k x) (h2:Ent bs B k j y):Ent bs (A+B) i j (pl x y):=by
 unfold Go.Proofs.YthdfmkpebafpoaaGreatDoor.pl
 by_cases e:x=1152921504606846976∨y=1152921504606846976
 ·rw [if_pos e];exact .inl rfl
 ·rw [if_neg e]
  rcases h with h | ⟨h1,h3,h4⟩
  ·exact absurd (.inl h) e
  ·rcases h2 with h2 | ⟨h5,h6,h7⟩
   ·exact absurd (.inr h2) e
   ·rw [wrap_in (by omega) (by omega)]
    exact .inr ⟨by omega,by omega,h4.trans h7⟩
theorem Ent.min {bs:List (Int×Int×Int)} {B:Int} {i j:Nat} {x y:Int} (h:Ent bs B i j x) (h2:Ent bs B i j y):Ent bs B i j (min x y):=by
 by_cases e:x≤y
 ·rw [Int.min_eq_left e];exact h
 ·rw [Int.min_eq_right (by omega)];exact h2
theorem cells_ent {bs:List (Int×Int×Int)} {B:Int} {n k i:Nat} {rk:Nat→Int} {d:Tab} (hB0:0≤B) (hB:3*B≤1000000000000000000) (hr:∀ j,j<n→Ent bs B k j (rk j)) (hk:k<n) (hd:∀ j,j<n→Ent bs B i j (d i j)) :
  ∀ m,m≤n→(∀ j,j<n→Ent bs (3*B) i j (cells k rk i d m i j))∧Ent bs (2*B) i k (cells k rk i d m i k)∧(m≤k→Ent bs B i k (cells k rk i d m i k))
 | 0,_=>⟨fun j hj=>(hd j hj).mono (by omega),(hd k hk).mono (by omega),fun _=>hd k hk⟩
 | m+1,hm=>by
  obtain ⟨h1,h2,h3⟩:=cells_ent hB0 hB hr hk hd m (by omega)
  have hv:Ent bs (3*B) i m (min (cells k rk i d m i m) (pl (cells k rk i d m i k) (rk m))) :=
   (h1 m (by omega)).min ((Ent.pl (A:=2*B) (by omega) h2 (hr m (by omega))).mono (by omega))
  refine ⟨fun j hj=>?_,?_,fun hmk=>?_⟩
  ·show Ent bs (3*B) i j (upd _ i m _ i j)
   unfold upd
   by_cases e:j=m
   ·subst e;rw [if_pos ⟨rfl,rfl⟩];exact hv
   ·rw [if_neg fun h=>e h.2];exact h1 j hj
  ·show Ent bs (2*B) i k (upd _ i m _ i k)
   unfold upd
   by_cases e:k=m
   ·subst e
    rw [if_pos ⟨rfl,rfl⟩]
    exact ((h3 (by omega)).mono (by omega)).min ((Ent.pl (A:=B) (by omega) (h3 (by omega)) (hr k hk)).mono (by omega))
   ·rw [if_neg fun h=>e h.2];exact h2
  ·show Ent bs B i k (upd _ i m _ i k)
   unfold upd
   rw [if_neg fun h=>by omega]
   exact h3 (by omega)
theorem cells_other {k:Nat} {rk:Nat→Int} {i:Nat} {d:Tab} {a b:Nat} (ha:a≠i):∀ m,cells k rk i d m a b=d a b
 | 0=>rfl
 | m+1=>by
  show upd _ i m _ a b=_
  unfold upd
  rw [if_neg fun h=>ha h.1]
  exact cells_other ha m
end Go.Proofs.YthdfmkpebafpoaaGreatDoor
namespace Go.Proofs.YthdfmkpebafpoaaGreatDoor
open Go Go.Abs Go.PE
def EntT (bs:List (Int×Int×Int)) (B:Int) (n:Nat) (d:Tab):Prop:=∀ i j,i<n→j<n→Ent bs B i j (d i j)
theorem rows_ent {bs:List (Int×Int×Int)} {B:Int} {n k:Nat} {rk:Nat→Int} {d:Tab} (hB0:0≤B) (hB:3*B≤1000000000000000000) (hr:∀ j,j<n→Ent bs B k j (rk j)) (hk:k<n) (hd:EntT bs B n d) :
  ∀ m,m≤n→EntT bs (3*B) n (rows n k rk d m)∧∀ i j,m≤i→rows n k rk d m i j=d i j
 | 0,_=>⟨fun i j hi hj=>(hd i j hi hj).mono (by omega),fun _ _ _=>rfl⟩
 | m+1,hm=>by
  obtain ⟨h1,h2⟩:=rows_ent hB0 hB hr hk hd m (by omega)
  refine ⟨fun i j hi hj=>?_,fun i j hi=>?_⟩
  ·show Ent bs (3*B) i j (cells k rk m (rows n k rk d m) n i j)
   by_cases e:i=m
   ·subst e
    exact (cells_ent hB0 hB hr hk (fun j hj=>by rw [h2 i j (Nat.le_refl _)];exact hd i j hi hj) n (Nat.le_refl _)).1 j hj
   ·rw [cells_other e];exact h1 i j hi hj
  ·show cells k rk m (rows n k rk d m) n i j=_
   rw [cells_other (by omega),h2 i j (by omega)]
theorem d0_ent {bs:List (Int×Int×Int)} {n:Nat}:EntT bs 1000000000 n d0:=by
 intro i j _ _
 unfold d0
 by_cases e:i=j
 ·subst e;rw [if_pos rfl];exact .inr ⟨by omega,by omega,.nil i⟩
 ·rw [if_neg e];exact .inl rfl
theorem bounds_ent {n:Nat} {bs:List (Int×Int×Int)}:∀ (cs:List (Int×Int×Int)) (d:Tab),(∀ c∈cs,c∈bs∧bnd (n:Int) c=true)→EntT bs 1000000000 n d→EntT bs 1000000000 n (cs.foldl addB d)
 | [],d,_,h=>h
 | c::cs,d,hc,h=>by
  refine bounds_ent cs (addB d c) (fun c' h'=>hc c' (List.mem_cons_of_mem _ h')) ?_
  obtain ⟨hm,hb⟩:=hc c (List.mem_cons_self ..)
  obtain ⟨a,b,ha,hb',e1,e2,e3,e4⟩:=bnd_of hb
  intro i j hi hj
  unfold addB upd
  have ha':c.1.toNat=a:=by omega
  have hb'':c.2.1.toNat=b:=by omega
  rw [ha',hb'']
  by_cases e:i=a∧j=b
  ·rw [if_pos e]
   obtain ⟨rfl,rfl⟩:=e
   refine (h i j hi hj).min (.inr ⟨e3,e4,?_⟩)
   have hw:Wk bs i j (0+c.2.2):=(Wk.nil i).snoc (by rw [← e1,← e2];exact hm)
   simpa using hw
  ·rw [if_neg e];exact h i j hi hj
def size:Nat→Int
 | 0=>1000000000
 | k+1=>3*size k
theorem size_pos:∀ k,0≤size k
 | 0=>by decide
 | k+1=>by have:=size_pos k;show 0≤3*size k;omega
theorem size_le {k:Nat} (h:k≤16):size k≤100000000000000000:=by
 have:∀ k:Fin 17,size k.1≤100000000000000000:=by decide
 exact this ⟨k,by omega⟩
theorem rounds_ent {n:Nat} (hn:n≤16) {bs:List (Int×Int×Int)} {d:Tab} (hd:EntT bs 1000000000 n d):∀ k,k≤n→EntT bs (size k) n (rounds n d k)
 | 0,_=>hd
 | k+1,hk=>by
  have h:=rounds_ent hn hd k (by omega)
  have hs:=size_le (k:=k) (by omega)
  exact (rows_ent (size_pos k) (by omega) (fun j hj=>h k j (by omega) hj) (by omega) h n (Nat.le_refl _)).1
theorem fw_ent {n:Nat} (hn:n≤16) {bs:List (Int×Int×Int)} (hb:bs.all (bnd (n:Int))=true):EntT bs 100000000000000000 n (fw n bs):=by
 intro i j hi hj
 have h0:=bounds_ent (n:=n) (bs:=bs) bs d0 (fun c hc=>⟨hc,List.all_eq_true.1 hb c hc⟩) d0_ent
 exact (rounds_ent hn h0 n (Nat.le_refl _) i j hi hj).mono (size_le hn)
end Go.Proofs.YthdfmkpebafpoaaGreatDoor
namespace Go.Proofs.YthdfmkpebafpoaaGreatDoor
open Go Go.Abs Go.PE
theorem cell_le (k:Nat) (rk:Nat→Int) (i j:Nat) (d:Tab) (a b:Nat):cell k rk i j d a b≤d a b:=by
 unfold cell upd
 by_cases e:a=i∧b=j
 ·rw [if_pos e];obtain ⟨rfl,rfl⟩:=e;exact Int.min_le_left _ _
 ·rw [if_neg e];exact Int.le_refl _
theorem cells_le (k:Nat) (rk:Nat→Int) (i:Nat) (d:Tab) (a b:Nat):∀ m,cells k rk i d m a b≤d a b
 | 0=>Int.le_refl _
 | m+1=>Int.le_trans (cell_le ..) (cells_le k rk i d a b m)
theorem rows_le (n k:Nat) (rk:Nat→Int) (d:Tab) (a b:Nat):∀ m,rows n k rk d m a b≤d a b
 | 0=>Int.le_refl _
 | m+1=>Int.le_trans (cells_le ..) (rows_le n k rk d a b m)
theorem rounds_le (n:Nat) (d:Tab) (a b:Nat) (k:Nat):∀ m,rounds n d (k+m) a b≤rounds n d k a b
 | 0=>Int.le_refl _
 | m+1=>Int.le_trans (rows_le ..) (rounds_le n d a b k m)
theorem pl_zero {bs:List (Int×Int×Int)} {B:Int} {i j:Nat} {x:Int} (hB:B≤1000000000000000000) (h:Ent bs B i j x):pl x 0=x:=by
 unfold pl
 rcases h with h | ⟨h1,h2,_⟩
 ·rw [if_pos (.inl h),h]
 ·rw [if_neg (by omega),wrap_in (by omega) (by omega)];omega
theorem cells_zero {bs:List (Int×Int×Int)} {B:Int} {k i:Nat} {rk:Nat→Int} {d:Tab} (hB:B≤1000000000000000000) (hz:rk k=0) (hd:Ent bs B i k (d i k)) :
  ∀ m,cells k rk i d m i k=d i k∧∀ j,cells k rk i d m i j=if j<m then min (d i j) (pl (d i k) (rk j)) else d i j
 | 0=>⟨rfl,fun j=>by rw [if_neg (by omega)];rfl⟩
 | m+1=>by
  obtain ⟨h1,h2⟩:=cells_zero hB hz hd m
  have hall:∀ j,cells k rk i d (m+1) i j=if j<m+1 then min (d i j) (pl (d i k) (rk j)) else d i j:=fun j=>by
   show upd _ i m _ i j=_
   unfold upd
   rw [h1]
   by_cases e:j=m
   ·subst e
    rw [if_pos ⟨rfl,rfl⟩,if_pos (by omega),h2 j,if_neg (by omega)]
   ·rw [if_neg fun h=>e h.2,h2 j]
    by_cases e2:j<m
    ·rw [if_pos e2,if_pos (by omega)]
    ·rw [if_neg e2,if_neg (by omega)]
  refine ⟨?_,hall⟩
  rw [hall k,hz,pl_zero hB hd,Int.min_self]
  split<;>rfl
theorem rows_zero {bs:List (Int×Int×Int)} {B:Int} {n k:Nat} {d:Tab} (hB:B≤1000000000000000000) (hz:d k k=0) (hk:k<n) (hd:EntT bs B n d) :
  ∀ m,m≤n→∀ i j,i<n→j<n→rows n k (d k) d m i j=if i<m then min (d i j) (pl (d i k) (d k j)) else d i j
 | 0,_,i,j,_,_=>by rw [if_neg (by omega)];rfl
 | m+1,hm,i,j,hi,hj=>by
  have ih:=rows_zero hB hz hk hd m (by omega)
  show cells k (d k) m (rows n k (d k) d m) n i j=_
  by_cases e:i=m
  ·subst e
   have e1:∀ b,b<n→rows n k (d k) d i i b=d i b:=fun b hb=>by rw [ih i b hi hb,if_neg (by omega)]
   have hc:=(cells_zero (bs:=bs) (i:=i) (d:=rows n k (d k) d i) hB hz (by rw [e1 k hk];exact hd i k hi hk) n).2 j
   rw [hc,if_pos hj,if_pos (by omega),e1 j hj,e1 k hk]
  ·rw [cells_other e,ih i j hi hj]
   by_cases e2:i<m
   ·rw [if_pos e2,if_pos (by omega)]
   ·rw [if_neg e2,if_neg (by omega)]
theorem round_zero {bs:List (Int×Int×Int)} {B:Int} {n k:Nat} {d:Tab} (hB:B≤1000000000000000000) (hz:d k k=0) (hk:k<n) (hd:EntT bs B n d) {i j:Nat} (hi:i<n) (hj:j<n) :
  rows n k (d k) d n i j=min (d i j) (pl (d i k) (d k j)):=by
 rw [rows_zero hB hz hk hd n (Nat.le_refl _) i j hi hj,if_pos hi]
end Go.Proofs.YthdfmkpebafpoaaGreatDoor
namespace Go.Proofs.YthdfmkpebafpoaaGreatDoor
open Go Go.Abs Go.PE
def Sz (x:Int):Prop:=x=1152921504606846976∨(-200000000000000000≤x∧x≤200000000000000000)
theorem pl_cases {x y:Int} (hx:Sz x) (hy:Sz y):((x=1152921504606846976∨y=1152921504606846976)∧pl x y=1152921504606846976)∨(x<1000000000000000000∧y<1000000000000000000∧pl x y=x+y):=by
 unfold pl
 by_cases e:x=1152921504606846976∨y=1152921504606846976
 ·exact .inl ⟨e,by rw [if_pos e]⟩
 ·unfold Sz at hx hy
  refine .inr ⟨by omega,by omega,?_⟩
  rw [if_neg e,wrap_in (by omega) (by omega)]
theorem pl_le_add {x y z:Int} (hx:Sz x) (hy:Sz y) (h:x<1000000000000000000→y<1000000000000000000→z≤x+y) (hz:z≤1152921504606846976):z≤pl x y:=by
 rcases pl_cases hx hy with ⟨_,e⟩ | ⟨h1,h2,e⟩
 ·rw [e];exact hz
 ·rw [e];exact h h1 h2
theorem le_of_pl {x y z:Int} (hx:Sz x) (hy:Sz y) (h:z≤pl x y) (h1:x<1000000000000000000) (h2:y<1000000000000000000):z≤x+y:=by
 rcases pl_cases hx hy with ⟨h3,e⟩ | ⟨_,_,e⟩
 ·omega
 ·rw [e] at h;exact h
def Tri (n k:Nat) (d:Tab):Prop:=∀ l i j,l<k→l<n→i<n→j<n→d i j≤pl (d i l) (d l j)
set_option maxHeartbeats 4000000 in
theorem tri_step {n k:Nat} {d D:Tab} (hs:∀ i j,i<n→j<n→d i j=1152921504606846976∨(-100000000000000000≤d i j∧d i j≤100000000000000000)) (hD:∀ i j,i<n→j<n→D i j=min (d i j) (pl (d i k) (d k j)))
  (hz:d k k=0) (hk:k<n) (h:Tri n k d):Tri n (k+1) D:=by
 intro l i j hlk hl hi hj
 have S:∀ i j,i<n→j<n→Sz (d i j):=fun i j hi hj=>by have:=hs i j hi hj;unfold Sz;omega
 have C:∀ i l j,i<n→l<n→j<n→_:=fun i l j hi hl hj=>pl_cases (S i l hi hl) (S l j hl hj)
 have c1:=C i k j hi hk hj
 have c2:=C i k l hi hk hl
 have c3:=C l k j hl hk hj
 have sij:=hs i j hi hj
 have sil:=hs i l hi hl
 have slj:=hs l j hl hj
 have sik:=hs i k hi hk
 have skj:=hs k j hk hj
 have skl:=hs k l hk hl
 have slk:=hs l k hl hk
 have e1:=hD i j hi hj
 have e2:=hD i l hi hl
 have e3:=hD l j hl hj
 refine pl_le_add (by unfold Sz;omega) (by unfold Sz;omega) ?_ (by omega)
 intro f1 f2
 by_cases e:l=k
 ·subst e
  rw [hz] at c2 c3 e2 e3
  omega
 ·have hlk':l<k:=by omega
  have t1:=fun a b=>le_of_pl (S i l hi hl) (S l j hl hj) (h l i j hlk' hl hi hj) a b
  have t2:=fun a b=>le_of_pl (S k l hk hl) (S l j hl hj) (h l k j hlk' hl hk hj) a b
  have t3:=fun a b=>le_of_pl (S i l hi hl) (S l k hl hk) (h l i k hlk' hl hi hk) a b
  have t4:=fun a b=>le_of_pl (S k l hk hl) (S l k hl hk) (h l k k hlk' hl hk hk) a b
  rw [hz] at t4
  rcases c1 with ⟨a1,a2⟩ | ⟨a1,a2,a3⟩<;>rcases c2 with ⟨b1,b2⟩ | ⟨b1,b2,b3⟩<;>rcases c3 with ⟨g1,g2⟩ | ⟨g1,g2,g3⟩<;>omega
end Go.Proofs.YthdfmkpebafpoaaGreatDoor
namespace Go.Proofs.YthdfmkpebafpoaaGreatDoor
open Go Go.Abs Go.PE
theorem addB_le (d:Tab) (c:Int×Int×Int) (a b:Nat):addB d c a b≤d a b:=by
 unfold addB upd
 split
 ·rename_i e;rw [e.1,e.2];exact Int.min_le_left _ _
 ·exact Int.le_refl _
theorem bounds_le:∀ (cs:List (Int×Int×Int)) (d:Tab) (a b:Nat),cs.foldl addB d a b≤d a b
 | [],_,_,_=>Int.le_refl _
 | c::cs,d,a,b=>Int.le_trans (bounds_le cs (addB d c) a b) (addB_le d c a b)
theorem fw_diag {n:Nat} {bs:List (Int×Int×Int)} (h:ovl (fw n bs) n=false) {k i:Nat} (hk:k≤n) (hi:i<n):rounds n (bs.foldl addB d0) k i i=0:=by
 have h1:¬ fw n bs i i<0:=fun hlt=>by
  rw [(ovl_iff _ _).2 ⟨i,hi,hlt⟩] at h;cases h
 have h2:=rounds_le n (bs.foldl addB d0) i i k (n-k)
 have e:k+(n-k)=n:=by omega
 rw [e] at h2
 have h3:=rounds_le n (bs.foldl addB d0) i i 0 k
 rw [Nat.zero_add] at h3
 have h4:bs.foldl addB d0 i i≤d0 i i:=bounds_le bs d0 i i
 have h5:d0 i i=0:=by simp [d0]
 unfold fw at h1
 have h6:rounds n (bs.foldl addB d0) 0 i i=bs.foldl addB d0 i i:=rfl
 omega
theorem rounds_tri {n:Nat} (hn:n≤16) {bs:List (Int×Int×Int)} (hb:bs.all (bnd (n:Int))=true) (h:ovl (fw n bs) n=false):∀ k,k≤n→Tri n k (rounds n (bs.foldl addB d0) k)
 | 0,_=>fun l i j hl=>by omega
 | k+1,hk=>by
  have h0:=bounds_ent (n:=n) (bs:=bs) bs d0 (fun c hc=>⟨hc,List.all_eq_true.1 hb c hc⟩) d0_ent
  have hE:EntT bs 100000000000000000 n (rounds n (bs.foldl addB d0) k):=fun i j hi hj=>(rounds_ent hn h0 k (by omega) i j hi hj).mono (size_le (by omega))
  have hz:=fw_diag h (k:=k) (by omega) (show k<n by omega)
  refine tri_step (k:=k) (d:=rounds n (bs.foldl addB d0) k) (fun i j hi hj=>?_) (fun i j hi hj=>round_zero (bs:=bs) (by omega) hz (by omega) hE hi hj) hz (by omega) (rounds_tri hn hb h k (by omega))
  rcases hE i j hi hj with e | ⟨e1,e2,_⟩
  ·exact .inl e
  ·exact .inr ⟨e1,e2⟩
theorem fw_tri {n:Nat} (hn:n≤16) {bs:List (Int×Int×Int)} (hb:bs.all (bnd (n:Int))=true) (h:ovl (fw n bs) n=false):Tri n n (fw n bs):=rounds_tri hn hb h n (Nat.le_refl _)
end Go.Proofs.YthdfmkpebafpoaaGreatDoor
namespace Go.Proofs.YthdfmkpebafpoaaGreatDoor
open Go Go.Abs Go.PE
theorem bounds_bound {n:Nat}:∀ (cs:List (Int×Int×Int)) (d:Tab) (a b:Nat) (m:Int),((a:Int),(b:Int),m)∈cs→cs.foldl addB d a b≤m
 | c::cs,d,a,b,m,h=>by
  rcases List.mem_cons.1 h with h | h
  ·subst h
   refine Int.le_trans (bounds_le cs _ a b) ?_
   unfold addB upd
   have ha:((a:Int)).toNat=a:=by omega
   have hb:((b:Int)).toNat=b:=by omega
   simp only [ha,hb,and_self,if_true]
   exact Int.min_le_right _ _
  ·exact bounds_bound (n:=n) cs (addB d c) a b m h
theorem fw_bound {n:Nat} {bs:List (Int×Int×Int)} {a b:Nat} {m:Int} (h:((a:Int),(b:Int),m)∈bs):fw n bs a b≤m:=by
 have h2:=rounds_le n (bs.foldl addB d0) a b 0 n
 rw [Nat.zero_add] at h2
 exact Int.le_trans h2 (bounds_bound (n:=n) bs d0 a b m h)
theorem fw_least {n:Nat} (hn:n≤16) {bs:List (Int×Int×Int)} (hb:bs.all (bnd (n:Int))=true) (h:ovl (fw n bs) n=false) {i j:Nat} {w:Int} (hi:i<n) (hw:Wk bs i j w):j<n∧fw n bs i j<1000000000000000000∧fw n bs i j≤w:=by
 have hE:=fw_ent hn hb
 have S:∀ i j,i<n→j<n→Sz (fw n bs i j):=fun i j hi hj=>by
  rcases hE i j hi hj with e | ⟨e1,e2,_⟩
  ·exact .inl e
  ·exact .inr ⟨by omega,by omega⟩
 induction hw with
 | nil =>
  have e:fw n bs i i=0:=fw_diag h (Nat.le_refl n) hi
  exact ⟨hi,by omega,by omega⟩
 | @snoc a b w m hw hm ih =>
  obtain ⟨ha,hf,hle⟩:=ih
  have hbd:=List.all_eq_true.1 hb _ hm
  have hbd:=of_decide_eq_true hbd
  have hbn:b<n:=by have:=hbd.2.2.2.1;simp only at this;omega
  refine ⟨hbn,?_⟩
  have h1:=fw_bound (n:=n) hm
  have h2:=fw_tri hn hb h a i b ha ha hi hbn
  have h3:=hbd.2.2.2.2.2
  simp only at h3
  rcases pl_cases (S i a hi ha) (S a b ha hbn) with ⟨h4 | h4,_⟩ | ⟨_,_,e⟩
  ·omega
  ·omega
  ·rw [e] at h2
   have s1:=S i a hi ha
   have s2:=S i b hi hbn
   unfold Sz at s1 s2
   omega
end Go.Proofs.YthdfmkpebafpoaaGreatDoor
namespace Go.Proofs.YthdfmkpebafpoaaGreatDoor
open Go Go.Abs Go.PE
theorem Wk.cons {bs:List (Int×Int×Int)} {i a b:Nat} {w m:Int} (hm:((i:Int),(a:Int),m)∈bs) (h:Wk bs a b w):Wk bs i b (m+w):=by
 have h1:Wk bs i a (0+m):=(Wk.nil i).snoc hm
 rw [Int.zero_add] at h1
 exact h1.trans h
end Go.Proofs.YthdfmkpebafpoaaGreatDoor
namespace Go.Proofs.YthdfmkpebafpoaaGreatDoor
open Go Go.Abs Go.PE
abbrev Num:=Int×List Int×List (Int×Int×Int)×Int
def i64 (n:Int):Prop:=-9223372036854775808≤n∧n≤9223372036854775807
def nH (x:Num):Nat:=1+(pk x.1 8).toNat
def hidf (x:Num) (i:Nat):Int:=match x.2.1[i]? with
 | some v=>pk v 200-100
 | none=>0
def hid (x:Num):List Int:=row (nH x) (hidf x)
def keeps (y:List Int) (c:Int×Int×Int):Bool:=decide (y.getD c.2.1.toNat 0-y.getD c.1.toNat 0≤c.2.2)
theorem sys_bnd {x:Int×List (Int×Int×Int)} (h:sys x=true):(0≤x.1∧x.1≤16∧x.2.length≤60)∧∀ c∈x.2,0≤c.1∧c.1<x.1∧0≤c.2.1∧c.2.1<x.1∧-1000000000≤c.2.2∧c.2.2≤1000000000:=by
 unfold sys at h
 rw [Bool.and_eq_true] at h
 refine ⟨of_decide_eq_true h.1,fun c hc=>?_⟩
 exact of_decide_eq_true (List.all_eq_true.1 h.2 c hc)
end Go.Proofs.YthdfmkpebafpoaaGreatDoor
namespace Go.Proofs.YthdfmkpebafpoaaGreatDoor
open Go Go.Abs Go.PE
theorem tdiv_ok {a b:Int} (ha:i64 a) (hb:2≤b):i64 (a.tdiv b):=by
 unfold i64 at *
 have h1:a.natAbs / b.natAbs≤a.natAbs / 2:=Nat.div_le_div_left (by omega) (by omega)
 have h2:(a.tdiv b).natAbs=a.natAbs / b.natAbs:=Int.natAbs_tdiv a b
 omega
theorem wrap_tdiv {a b:Int} (ha:i64 a) (hb:2≤b):IntKind.wrap IntKind.i64 (a.tdiv b)=a.tdiv b:=by
 have h:=tdiv_ok ha hb
 exact wrap_in h.1 h.2
def less (x:Num) (c:Int×Int×Int):Int×Int×Int:=(c.1,c.2.1,c.2.2-10-pk (x.2.2.2.tdiv 60) 60)
theorem row_mem {α:Type} {m:Nat} {g:Nat→α} {a:α} (h:a∈row m g):∃ i,i<m∧g i=a:=by
 obtain ⟨i,hi⟩:=List.mem_iff_getElem?.1 h
 by_cases h':i<m
 ·rw [row_get h'] at hi;exact ⟨i,h',by simpa using hi⟩
 ·rw [List.getElem?_eq_none (by rw [row_length];omega)] at hi;cases hi
end Go.Proofs.YthdfmkpebafpoaaGreatDoor
namespace Go.Proofs.YthdfmkpebafpoaaGreatDoor
open Go Go.Abs Go.PE
abbrev Sys:=Int×List (Int×Int×Int)
def ovS (x:Sys):Bool:=ovl (fw x.1.toNat x.2) x.1.toNat
def fwS (x:Sys):Tab:=fw x.1.toNat x.2
theorem sys_all {x:Sys} (h:sys x=true):x.1.toNat≤16∧x.2.all (bnd (x.1.toNat:Int))=true∧((x.1.toNat:Nat):Int)=x.1:=by
 have hs:=sys_bnd h
 have e:((x.1.toNat:Nat):Int)=x.1:=by omega
 refine ⟨by omega,?_,e⟩
 rw [e]
 unfold sys at h
 rw [Bool.and_eq_true] at h
 exact h.2
theorem walk_stays {n:Nat} {bs:List (Int×Int×Int)} (hb:bs.all (bnd (n:Int))=true) {i j:Nat} {w:Int} (hi:i<n) (h:Wk bs i j w):j<n:=by
 induction h with
 | nil=>exact hi
 | snoc _ hm _ =>
  have:=of_decide_eq_true (List.all_eq_true.1 hb _ hm)
  simp only at this
  omega
theorem keep_walk {bs:List (Int×Int×Int)} {f:Nat→Int} (hk:∀ a b:Nat,∀ m:Int,((a:Int),(b:Int),m)∈bs→f b-f a≤m) {i j:Nat} {w:Int} (h:Wk bs i j w):f j-f i≤w:=by
 induction h with
 | nil=>omega
 | snoc _ hm ih=>have:=hk _ _ _ hm;omega
theorem ov_walk {x:Sys} (hs:sys x=true) (h:ovS x=true):∃ i w,i<x.1.toNat∧w<0∧Wk x.2 i i w:=by
 obtain ⟨hn,hb,_⟩:=sys_all hs
 obtain ⟨i,hi,hlt⟩:=(ovl_iff _ _).1 h
 rcases fw_ent hn hb i i hi hi with e | ⟨_,_,e⟩
 ·omega
 ·exact ⟨i,_,hi,hlt,e⟩
theorem fw_cases {x:Sys} (hs:sys x=true) (ho:ovS x=false) {i j:Nat} (hi:i<x.1.toNat) (hj:j<x.1.toNat) :
  (fwS x i j=1152921504606846976∧∀ w,¬ Wk x.2 i j w)∨(-100000000000000000≤fwS x i j∧fwS x i j≤100000000000000000∧Wk x.2 i j (fwS x i j)∧∀ w,Wk x.2 i j w→fwS x i j≤w):=by
 obtain ⟨hn,hb,_⟩:=sys_all hs
 rcases fw_ent hn hb i j hi hj with e | ⟨e1,e2,e3⟩
 ·refine .inl ⟨e,fun w hw=>?_⟩
  have:=(fw_least hn hb ho hi hw).2.1
  omega
 ·exact .inr ⟨e1,e2,e3,fun w hw=>(fw_least hn hb ho hi hw).2.2⟩
theorem fw_self {x:Sys} (ho:ovS x=false) {i:Nat} (hi:i<x.1.toNat):fwS x i i=0:=fw_diag (bs:=x.2) ho (Nat.le_refl _) hi
end Go.Proofs.YthdfmkpebafpoaaGreatDoor
namespace Go.Proofs.YthdfmkpebafpoaaGreatDoor
open Go Go.Abs Go.PE
end Go.Proofs.YthdfmkpebafpoaaGreatDoor
namespace Go.Proofs.YthdfmkpebafpoaaGreatDoor
open Go Go.Abs Go.PE
def solf (d:Tab):Nat→Nat→Int
 | 0,_=>0
 | i+1,k=>min (solf d i k) (d i k)
def sol (x:Sys) (k:Nat):Int:=solf (fwS x) x.1.toNat k
end Go.Proofs.YthdfmkpebafpoaaGreatDoor
namespace Go.Proofs.YthdfmkpebafpoaaGreatDoor
open Go Go.Abs Go.PE
end Go.Proofs.YthdfmkpebafpoaaGreatDoor
namespace Go.Proofs.YthdfmkpebafpoaaGreatDoor
open Go Go.Abs Go.PE
def there (x:Sys) (k i:Nat):Int:=if fwS x k i=1152921504606846976 then 1000000000+sol x i else fwS x k i
end Go.Proofs.YthdfmkpebafpoaaGreatDoor
namespace Go.Proofs.YthdfmkpebafpoaaGreatDoor
open Go Go.Abs Go.PE
inductive WN (bs:List (Int×Int×Int)):Nat→Nat→Nat→Int→Prop
 | nil (i:Nat):WN bs i i 0 0
 | cons {i a j m:Nat} {c w:Int}:((i:Int),(a:Int),c)∈bs→WN bs a j m w→WN bs i j (m+1) (c+w)
section
variable {bs:List (Int×Int×Int)}
theorem WN.one {i a:Nat} {c:Int} (h:((i:Int),(a:Int),c)∈bs):WN bs i a 1 c:=by
 have:=WN.cons h (WN.nil a)
 rw [Int.add_zero] at this
 exact this
theorem WN.trans {i j k m m':Nat} {w w':Int} (h:WN bs i j m w) (h2:WN bs j k m' w'):WN bs i k (m+m') (w+w'):=by
 induction h with
 | nil=>rw [Nat.zero_add,Int.zero_add];exact h2
 | @cons i a j m c w hm _ ih =>
  rw [Nat.add_right_comm,Int.add_assoc]
  exact .cons hm (ih h2)
theorem WN.snoc {i a b m:Nat} {w c:Int} (h:WN bs i a m w) (hm:((a:Int),(b:Int),c)∈bs):WN bs i b (m+1) (w+c):=h.trans (.one hm)
theorem WN.wk {i j m:Nat} {w:Int} (h:WN bs i j m w):Wk bs i j w:=by
 induction h with
 | nil=>exact .nil _
 | cons hm _ ih=>exact Wk.cons hm ih
theorem Wk.wn {i j:Nat} {w:Int} (h:Wk bs i j w):∃ m,WN bs i j m w:=by
 induction h with
 | nil=>exact ⟨0,.nil _⟩
 | snoc _ hm ih =>
  obtain ⟨m,h⟩:=ih
  exact ⟨m+1,h.snoc hm⟩
theorem WN.zero {i j:Nat} {w:Int} (h:WN bs i j 0 w):i=j∧w=0:=by
 cases h
 exact ⟨rfl,rfl⟩
theorem WN.last {i j m:Nat} {w:Int} (h:WN bs i j (m+1) w):∃ a c w',WN bs i a m w'∧((a:Int),(j:Int),c)∈bs∧w=w'+c:=by
 generalize hk:m+1=k at h
 induction h generalizing m with
 | nil=>omega
 | @cons i a j m' c w hm h1 ih =>
  cases m with
  | zero =>
   have:m'=0:=by omega
   subst this
   obtain ⟨rfl,rfl⟩:=h1.zero
   exact ⟨i,c,0,.nil _,hm,by omega⟩
  | succ m =>
   obtain ⟨b,c',w',h2,h3,h4⟩:=ih (m:=m) (by omega)
   exact ⟨b,c',c+w',.cons hm h2,h3,by omega⟩
theorem WN.stations {i j m:Nat} {w:Int} (h:WN bs i j m w):∃ (v:Nat→Nat) (s:Nat→Int),v 0=i∧v m=j∧s 0=0∧s m=w∧∀ k,k<m→((v k:Int),(v (k+1):Int),s (k+1)-s k)∈bs:=by
 induction h with
 | nil i=>exact ⟨fun _=>i,fun _=>0,rfl,rfl,rfl,rfl,fun k hk=>by omega⟩
 | @cons i a j m c w hm _ ih =>
  obtain ⟨v,s,h0,h1,h2,h3,h4⟩:=ih
  refine ⟨fun k=>match k with | 0=>i | k+1=>v k,fun k=>match k with | 0=>0 | k+1=>c+s k,rfl,h1,rfl,by show c+s m=_;rw [h3],fun k hk=>?_⟩
  cases k with
  | zero =>
   show ((i:Int),(v 0:Int),c+s 0-0)∈bs
   rw [h0,h2,Int.add_zero,Int.sub_zero]
   exact hm
  | succ k =>
   have:=h4 k (by omega)
   show ((v k:Int),(v (k+1):Int),c+s (k+1)-(c+s k))∈bs
   have e:c+s (k+1)-(c+s k)=s (k+1)-s k:=by omega
   rw [e]
   exact this
theorem seg {m:Nat} {v:Nat→Nat} {s:Nat→Int} (h:∀ k,k<m→((v k:Int),(v (k+1):Int),s (k+1)-s k)∈bs) (a:Nat):∀ d,a+d≤m→WN bs (v a) (v (a+d)) d (s (a+d)-s a)
 | 0,_=>by
  have e:s (a+0)-s a=0:=by rw [Nat.add_zero];omega
  rw [e]
  exact .nil _
 | d+1,hd=>by
  have h1:=(seg h a d (by omega)).snoc (h (a+d) (by omega))
  have e:s (a+d)-s a+(s (a+d+1)-s (a+d))=s (a+(d+1))-s a:=by rw [Nat.add_assoc];omega
  rw [e] at h1
  exact h1
end
theorem pigeon:∀ (n:Nat) (v:Nat→Nat),(∀ k,k≤n→v k<n)→∃ a b,a<b∧b≤n∧v a=v b
 | 0,v,h=>absurd (h 0 (Nat.le_refl _)) (Nat.not_lt_zero _)
 | n+1,v,h=>by
  by_cases hx:∃ k,k≤n∧v k=v (n+1)
  ·obtain ⟨k,hk,e⟩:=hx
   exact ⟨k,n+1,by omega,Nat.le_refl _,e⟩
  ·have hne:∀ k,k≤n→v k≠v (n+1):=fun k hk e=>hx ⟨k,hk,e⟩
   obtain ⟨a,b,hab,hb,e⟩:=pigeon n (fun k=>if v k=n then v (n+1) else v k) (fun k hk=>by
    have h1:=h k (by omega)
    have h2:=h (n+1) (Nat.le_refl _)
    have h3:=hne k hk
    split<;>omega)
   refine ⟨a,b,hab,by omega,?_⟩
   have h1:=hne a (by omega)
   have h2:=hne b hb
   split at e<;>split at e<;>omega
theorem WN.stays {n:Nat} {bs:List (Int×Int×Int)} (hb:bs.all (bnd (n:Int))=true) {i j m:Nat} {w:Int} (hi:i<n) (h:WN bs i j m w):j<n:=walk_stays hb hi h.wk
theorem WN.cut {n:Nat} {bs:List (Int×Int×Int)} (hb:bs.all (bnd (n:Int))=true) {i j m:Nat} {w:Int} (hi:i<n) (hm:n≤m) (h:WN bs i j m w) :
  ∃ u m1 m2 m3 w1 w2 w3,u<n∧1≤m2∧m2≤n∧m1+m2+m3=m∧w=w1+w2+w3∧WN bs i u m1 w1∧WN bs u u m2 w2∧WN bs u j m3 w3:=by
 obtain ⟨v,s,h0,h1,h2,h3,h4⟩:=h.stations
 have hv:∀ k,k≤m→v k<n:=fun k hk=>by
  have:=seg h4 0 k (by omega)
  rw [Nat.zero_add,h0] at this
  exact this.stays hb hi
 obtain ⟨a,b,hab,hbn,e⟩:=pigeon n v fun k hk=>hv k (by omega)
 have s1:=seg h4 0 a (by omega)
 have s2:=seg h4 a (b-a) (by omega)
 have s3:=seg h4 b (m-b) (by omega)
 rw [Nat.zero_add,h0,h2] at s1
 rw [show a+(b-a)=b by omega,← e] at s2
 rw [show b+(m-b)=m by omega,h1,h3,← e] at s3
 exact ⟨v a,a,b-a,m-b,_,_,_,hv a (by omega),by omega,by omega,by omega,by omega,s1,s2,s3⟩
theorem WN.short {n:Nat} {bs:List (Int×Int×Int)} (hb:bs.all (bnd (n:Int))=true) (hno:∀ u m w,u<n→WN bs u u m w→0≤w) {i j:Nat} (hi:i<n):∀ {m:Nat} {w:Int},WN bs i j m w→∃ m' w',m'<n∧w'≤w∧WN bs i j m' w':=by
 intro m
 induction m using Nat.strongRecOn with
 | ind m ih =>
  intro w h
  by_cases hm:m<n
  ·exact ⟨m,w,hm,Int.le_refl _,h⟩
  ·obtain ⟨u,m1,m2,m3,w1,w2,w3,hu,g1,_,g2,g3,g4,g5,g6⟩:=h.cut hb hi (by omega)
   have:=hno u m2 w2 hu g5
   obtain ⟨m',w',k1,k2,k3⟩:=ih (m1+m3) (by omega) (g4.trans g6)
   exact ⟨m',w',k1,by omega,k3⟩
end Go.Proofs.YthdfmkpebafpoaaGreatDoor
namespace Go.Proofs.YthdfmkpebafpoaaGreatDoor
open Go Go.Abs Go.PE
def farT:Tab:=fun _ _=>1152921504606846976
def addW (d t:Tab) (c:Int×Int×Int):Tab:=fun i j=>if j=c.2.1.toNat then min (t i j) (pl (d i c.1.toNat) c.2.2) else t i j
def nxt (bs:List (Int×Int×Int)) (d:Tab):Tab:=bs.foldl (addW d) farT
def wkT (bs:List (Int×Int×Int)):Nat→Tab
 | 0=>d0
 | m+1=>nxt bs (wkT bs m)
end Go.Proofs.YthdfmkpebafpoaaGreatDoor
namespace Go.Proofs.YthdfmkpebafpoaaGreatDoor
open Go Go.Abs Go.PE
end Go.Proofs.YthdfmkpebafpoaaGreatDoor
namespace Go.Proofs.YthdfmkpebafpoaaGreatDoor
open Go Go.Abs Go.PE
def stp (bs:List (Int×Int×Int)) (tw m f:Nat) (q:Int) (c:Int×Int×Int):Bool:=decide (c.1=(f:Int))&&decide (pl c.2.2 (wkT bs m c.2.1.toNat tw)≤q)
theorem getD_of {α:Type} {xs:List α} {k:Nat} {z:α} (h:k<xs.length):xs.getD k z=xs[k]:=by
 rw [List.getD_eq_getElem?_getD,List.getElem?_eq_getElem h]
 rfl
section
variable {n:Nat} {bs:List (Int×Int×Int)} (hb:bs.all (bnd (n:Int))=true)
include hb
end
end Go.Proofs.YthdfmkpebafpoaaGreatDoor
namespace Go.Proofs.YthdfmkpebafpoaaGreatDoor
open Go Go.Abs Go.PE
end Go.Proofs.YthdfmkpebafpoaaGreatDoor
namespace Go.Proofs.YthdfmkpebafpoaaGreatDoor
open Go Go.Abs Go.PE
end Go.Proofs.YthdfmkpebafpoaaGreatDoor
namespace Go.Proofs.YthdfmkpebafpoaaGreatDoor
open Go Go.Abs Go.PE
theorem Wk.mono {bs bs':List (Int×Int×Int)} (hs:∀ c,c∈bs→c∈bs') {i j:Nat} {w:Int} (h:Wk bs i j w):Wk bs' i j w:=by
 induction h with
 | nil=>exact .nil _
 | snoc _ hm ih=>exact ih.snoc (hs _ hm)
theorem fw_tri' {x:Sys} (hs:sys x=true) (ho:ovS x=false) {i k j:Nat} (hi:i<x.1.toNat) (hk:k<x.1.toNat) (hj:j<x.1.toNat) (h1:fwS x i k<1000000000000000000) (h2:fwS x k j<1000000000000000000):fwS x i j≤fwS x i k+fwS x k j:=by
 obtain ⟨hn,hb,_⟩:=sys_all hs
 rcases fw_cases hs ho hi hk with ⟨e,_⟩ | ⟨_,_,e,_⟩
 ·omega
 ·rcases fw_cases hs ho hk hj with ⟨e',_⟩ | ⟨_,_,e',_⟩
  ·omega
  ·exact (fw_least hn hb ho hi (e.trans e')).2.2
end Go.Proofs.YthdfmkpebafpoaaGreatDoor
namespace Go.Proofs.YthdfmkpebafpoaaGreatDoor
open Go Go.Abs Go.PE
end Go.Proofs.YthdfmkpebafpoaaGreatDoor
namespace Go.Proofs.YthdfmkpebafpoaaGreatDoor
open Go Go.Abs Go.PE
def short (l:List Int):List Int:=l.take (min l.length 20)
end Go.Proofs.YthdfmkpebafpoaaGreatDoor
namespace Go.Proofs.YthdfmkpebafpoaaGreatDoor
open Go Go.Abs Go.PE
end Go.Proofs.YthdfmkpebafpoaaGreatDoor
namespace Go.Proofs.YthdfmkpebafpoaaGreatDoor
open Go Go.Abs Go.PE
end Go.Proofs.YthdfmkpebafpoaaGreatDoor
namespace Go.Proofs.YthdfmkpebafpoaaGreatDoor
open Go Go.Abs Go.PE Go.Proofs
open Go.IntKind (wrap)
set_option maxRecDepth 100000
set_option maxHeartbeats 0
noncomputable section
def m19F:(Int×(List (Int×Int×Int×Int))×List (Int×Int×Int×Int×Int))→Option (Bool) :=
 fun x=>(m34 (x.1,0,8)).bind fun r=>bif PE.orM (PE.orM (PE.notM r) (ltM 8 (lenM x.2.1))) (ltM 20 (lenM x.2.2)) then some false else ((loopF (fun (s:Int)
 => bif ltM s (lenM x.2.1) then (idxM x.2.1 s).bind fun r_1=>(m34 (r_1.1,0,wrap IntKind.i64 (x.1-1))).bind fun r_2=>(bif PE.notM (PE.notM r_2) then m42
 (r_1.2.1,r_1.2.2.1,10000) else some false).bind fun r_3=>(bif PE.notM (PE.orM (PE.notM r_2) (PE.notM r_3)) then m34 (r_1.2.2.2,0,1000) else some
 false).bind fun r=>bif PE.orM (PE.orM (PE.notM r_2) (PE.notM r_3)) (PE.notM r) then some (Sum.inr (Sum.inr s)) else some (Sum.inl (wrap IntKind.i64 (s +
 1))) else some (Sum.inr (Sum.inl ()))) 0).bind fun o=>Sum.elim (fun (t:Unit)=>some (-1)) (fun (t:Int)=>some t) o).bind fun (ov:Int)=>(bif
 PE.notM (leM 0 ov) then ((loopF (fun (s:Int)=>bif ltM s (lenM x.2.2) then (idxM x.2.2 s).bind fun r_1=>(m34 (r_1.1,0,wrap IntKind.i64 (x.1-1))).bind
 fun r_2=>(bif PE.notM (PE.notM r_2) then m34 (r_1.2.1,0,wrap IntKind.i64 (x.1-1)) else some false).bind fun r_3=>(bif PE.notM (PE.orM (PE.orM (PE.notM
 r_2) (PE.notM r_3)) (eqM r_1.1 r_1.2.1)) then m42 (r_1.2.2.1,r_1.2.2.2.1,10000) else some false).bind fun r_4=>(bif PE.notM (PE.orM (PE.orM (PE.orM
 (PE.notM r_2) (PE.notM r_3)) (eqM r_1.1 r_1.2.1)) (PE.notM r_4)) then m34 (r_1.2.2.2.2,0,1000) else some false).bind fun r=>bif PE.orM (PE.orM (PE.orM
 (PE.orM (PE.notM r_2) (PE.notM r_3)) (eqM r_1.1 r_1.2.1)) (PE.notM r_4)) (PE.notM r) then some (Sum.inr (Sum.inr s)) else some (Sum.inl (wrap IntKind.i64 (s +
 1))) else some (Sum.inr (Sum.inl ()))) 0).bind fun o=>Sum.elim (fun (t:Unit)=>some (-1)) (fun (t:Int)=>some t) o).bind fun (ov:Int)=>some (leM 0
 ov) else some false).bind fun (ov_1:Bool)=>some (PE.andM (PE.notM (leM 0 ov)) (PE.notM ov_1))
theorem le19 (x):Le (m19F x) (m19 x):=by
 unfold m19F m19
 repeat' first | with_reducible exact Le.refl _ | intro _ | apply Le.bind | apply Le.cond | apply Le.nil | apply Le.loop | apply Le.elim
def m36F:(Int×(List (Int×Int×Int×Int))×List (Int×Int×Int×Int×Int))→Option ((Int×List (Int×Int×Int))×Int×List (Int×Int×Int)) :=
 fun x=>(loopF (fun (s:Int×Int×Int×List (Int×Int×Int)×List (Int×Int×Int))=>bif ltM s.1 (lenM x.2.1) then (idxM x.2.1 s.1).bind fun r =>
 (m63 (r.2.1,r.2.2.1)).bind fun r_1=>(appM (nat_lit 24) s.2.2.2.1 [(x.1,r.1,wrap IntKind.i64 (r_1+r.2.2.2)),(r.1,x.1,wrap IntKind.i64 (r.2.2.2 -
 r_1))]).bind fun r_2=>(m64 (r.2.1,r.2.2.1)).bind fun r_3=>(appM (nat_lit 24) s.2.2.2.2 [(x.1,r.1,wrap IntKind.i64 (r_3+r.2.2.2)),(r.1,x.1,wrap
 IntKind.i64 (r.2.2.2-r_3))]).bind fun r=>some (Sum.inl (wrap IntKind.i64 (s.1+1),s.2.1,s.2.2.1,r_2,r)) else some (Sum.inr (s.2.1,s.2.2.1,
 s.2.2.2.1,s.2.2.2.2))) (0,wrap IntKind.i64 (x.1+1),wrap IntKind.i64 (x.1+1),[],[])).bind fun o=>(loopF (fun (s:Int×Int×Int×List (Int×Int
 × Int)×List (Int×Int×Int))=>bif ltM s.1 (lenM x.2.2) then (idxM x.2.2 s.1).bind fun r=>(m63 (r.2.2.1,r.2.2.2.1)).bind fun r_1=>(appM (nat_lit 24)
 s.2.2.2.1 [(r.1,r.2.1,wrap IntKind.i64 (r_1+r.2.2.2.2)),(r.2.1,r.1,wrap IntKind.i64 (r.2.2.2.2-r_1))]).bind fun r_2=>(m64 (r.2.2.1,
 r.2.2.2.1)).bind fun r_3=>(appM (nat_lit 24) s.2.2.2.2 [(r.1,r.2.1,wrap IntKind.i64 (r_3+r.2.2.2.2)),(r.2.1,r.1,wrap IntKind.i64 (r.2.2.2.2 -
 r_3))]).bind fun r=>some (Sum.inl (wrap IntKind.i64 (s.1+1),s.2.1,s.2.2.1,r_2,r)) else some (Sum.inr (s.2.1,s.2.2.1,s.2.2.2.1,s.2.2.2.2))) (0,o.1,
 o.2.1,o.2.2.1,o.2.2.2)).bind fun o=>some ((o.1,o.2.2.1),o.2.1,o.2.2.2)
theorem le36 (x):Le (m36F x) (m36 x):=by
 unfold m36F m36
 repeat' first | with_reducible exact Le.refl _ | intro _ | apply Le.bind | apply Le.cond | apply Le.nil | apply Le.loop | apply Le.elim
def m65F:(Int×List (Int×Int×Int))→Option (Bool) :=
 fun x=>(m93 (x.1,0,16)).bind fun r=>(bif PE.andM r (leM (lenM x.2) 60) then ((loopF (fun (s:Int)=>bif ltM s (lenM x.2) then (idxM x.2 s).bind fun r_1
 => (m96 (x.1,r_1.1,r_1.2.1,r_1.2.2)).bind fun r=>bif PE.notM r then some (Sum.inr (Sum.inr s)) else some (Sum.inl (wrap IntKind.i64 (s+1))) else some
 (Sum.inr (Sum.inl ()))) 0).bind fun o=>Sum.elim (fun (t:Unit)=>some (-1)) (fun (t:Int)=>some t) o).bind fun (ov:Int)=>some (leM 0 ov) else some
 false).bind fun (ov:Bool)=>some (PE.andM (PE.andM r (leM (lenM x.2) 60)) (PE.notM ov))
theorem le65 (x):Le (m65F x) (m65 x):=by
 unfold m65F m65
 repeat' first | with_reducible exact Le.refl _ | intro _ | apply Le.bind | apply Le.cond | apply Le.nil | apply Le.loop | apply Le.elim
def m97F:Int→Option (List (List Int)) :=
 fun x=>(mkM x x (nat_lit 24) []).bind fun r=>(loopF (fun (s:Int×List (List Int))=>bif ltM s.1 x then (loopF (fun (s_1:Int×List (List Int))=>bif
 ltM s_1.1 x then (chkM s.1 (lenM s_1.2)).bind fun r_1=>(chkM s.1 (lenM s_1.2)).bind fun r_2=>(m134 (s.1,s_1.1)).bind fun r_3=>(app2M (nat_lit 8) s_1.2
 s.1 [r_3]).bind fun r_4=>(chkM s.1 (lenM r_4)).bind fun r_5=>((sameM s.1 s.1).bind fun (x:Unit)=>(sameM s.1 s.1).bind fun (x:Unit)=>chkM s.1 (lenM
 r_4)).bind fun r=>some (Sum.inl (wrap IntKind.i64 (s_1.1+1),r_4)) else some (Sum.inr s_1.2)) (0,s.2)).bind fun o=>some (Sum.inl (wrap IntKind.i64 (s.1
 + 1),o)) else some (Sum.inr s.2)) (0,r)).bind fun o=>some o
theorem le97 (x):Le (m97F x) (m97 x):=by
 unfold m97F m97
 repeat' first | with_reducible exact Le.refl _ | intro _ | apply Le.bind | apply Le.cond | apply Le.nil | apply Le.loop | apply Le.elim
def m66F:(Int×List (Int×Int×Int))→Option (List (List Int)×Bool) :=
 fun x=>(mkM x.1 x.1 (nat_lit 24) []).bind fun r=>(loopF (fun (s:Int×List (List Int))=>bif ltM s.1 x.1 then (loopF (fun (s_1:Int×List (List Int))
 => bif ltM s_1.1 x.1 then (chkM s.1 (lenM s_1.2)).bind fun r_1=>(chkM s.1 (lenM s_1.2)).bind fun r_2=>(m134 (s.1,s_1.1)).bind fun r_3=>(app2M (nat_lit
 8) s_1.2 s.1 [r_3]).bind fun r_4=>(chkM s.1 (lenM r_4)).bind fun r_5=>((sameM s.1 s.1).bind fun (x:Unit)=>(sameM s.1 s.1).bind fun (x:Unit)=>chkM
 s.1 (lenM r_4)).bind fun r=>some (Sum.inl (wrap IntKind.i64 (s_1.1+1),r_4)) else some (Sum.inr s_1.2)) (0,s.2)).bind fun o=>some (Sum.inl (wrap
 IntKind.i64 (s.1+1),o)) else some (Sum.inr s.2)) (0,r)).bind fun o=>(loopF (fun (s:Int×List (List Int))=>bif ltM s.1 (lenM x.2) then (idxM x.2
 s.1).bind fun r_1=>(chkM r_1.1 (lenM s.2)).bind fun r_2=>(chkM r_1.1 (lenM s.2)).bind fun r_3=>(chkM r_1.1 (lenM s.2)).bind fun r_4=>(chkM r_1.1 (lenM
 s.2)).bind fun r_5=>((idxM s.2 r_1.1).bind fun (xs:List Int)=>chkM r_1.2.1 (lenM xs)).bind fun r_6=>((idxM s.2 r_1.1).bind fun (xs:List Int) =>
 (idxM xs r_1.2.1).bind fun (x:Int)=>some x).bind fun r_7=>((idxM s.2 r_1.1).bind fun (xs:List Int)=>chkM r_1.2.1 (lenM xs)).bind fun r_8=>(set2M
 s.2 r_1.1 r_1.2.1 fun (x:Int)=>some (min r_7 r_1.2.2)).bind fun r=>some (Sum.inl (wrap IntKind.i64 (s.1+1),r)) else some (Sum.inr s.2)) (0,o)).bind
 fun o_1=>(loopF (fun (s:Int×List (List Int))=>bif ltM s.1 x.1 then (mkM x.1 x.1 (nat_lit 8) 0).bind fun r_1=>(chkM s.1 (lenM s.2)).bind fun r_2 =>
 (chkM s.1 (lenM s.2)).bind fun r_3=>(idxM s.2 s.1).bind fun r_4=>(loopF (fun (s_1:Int×List (List Int))=>bif ltM s_1.1 x.1 then (loopF (fun (s_2 :
 Int×List (List Int))=>bif ltM s_2.1 x.1 then (chkM s_1.1 (lenM s_2.2)).bind fun r_5=>(chkM s_1.1 (lenM s_2.2)).bind fun r_6=>(chkM s_1.1 (lenM
 s_2.2)).bind fun r_7=>(chkM s_1.1 (lenM s_2.2)).bind fun r_8=>((idxM s_2.2 s_1.1).bind fun (xs:List Int)=>chkM s_2.1 (lenM xs)).bind fun r_9=>((idxM
 s_2.2 s_1.1).bind fun (xs:List Int)=>(idxM xs s_2.1).bind fun (x:Int)=>some x).bind fun r_10=>(chkM s_1.1 (lenM s_2.2)).bind fun r_11=>(chkM s_1.1
 (lenM s_2.2)).bind fun r_12=>((idxM s_2.2 s_1.1).bind fun (xs:List Int)=>chkM s.1 (lenM xs)).bind fun r_13=>((idxM s_2.2 s_1.1).bind fun (xs:List
 Int)=>(idxM xs s.1).bind fun (x:Int)=>some x).bind fun r_14=>(chkM s_2.1 (lenM (copyM r_1 r_4))).bind fun r_15=>(idxM (copyM r_1 r_4) s_2.1).bind
 fun r_16=>(m68 (r_14,r_16)).bind fun r_17=>((idxM s_2.2 s_1.1).bind fun (xs:List Int)=>chkM s_2.1 (lenM xs)).bind fun r_18=>(set2M s_2.2 s_1.1
 s_2.1 fun (x:Int)=>some (min r_10 r_17)).bind fun r=>some (Sum.inl (wrap IntKind.i64 (s_2.1+1),r)) else some (Sum.inr s_2.2)) (0,s_1.2)).bind fun o
 => some (Sum.inl (wrap IntKind.i64 (s_1.1+1),o)) else some (Sum.inr s_1.2)) (0,s.2)).bind fun o=>some (Sum.inl (wrap IntKind.i64 (s.1+1),o)) else
 some (Sum.inr s.2)) (0,o_1)).bind fun o_2=>(loopF (fun (s:Int)=>bif ltM s x.1 then (chkM s (lenM o_2)).bind fun r_1=>(chkM s (lenM o_2)).bind fun r_2
 => ((idxM o_2 s).bind fun (xs:List Int)=>chkM s (lenM xs)).bind fun r_3=>((idxM o_2 s).bind fun (xs:List Int)=>(idxM xs s).bind fun (x:Int) =>
 some x).bind fun r=>bif ltM r 0 then some (Sum.inr (Sum.inr false)) else some (Sum.inl (wrap IntKind.i64 (s+1))) else some (Sum.inr (Sum.inl ()))) 0).bind
 fun o=>Sum.elim (fun (t:Unit)=>some (o_2,true)) (fun (t:Bool)=>some ([],t)) o
theorem le66 (x):Le (m66F x) (m66 x):=by
 unfold m66F m66
 repeat' first | with_reducible exact Le.refl _ | intro _ | apply Le.bind | apply Le.cond | apply Le.nil | apply Le.loop | apply Le.elim
def m62F:(Int×List (Int×Int×Int))→Option (List (List Int)×Int) :=
 fun x=>(m65F (x.1,x.2)).bind fun r=>bif PE.notM r then some ([],90) else (m66F (x.1,x.2)).bind fun r=>bif PE.notM r.2 then some ([],90) else some
 (r.1,0)
theorem le62 (x):Le (m62F x) (m62 x):=by
 unfold m62F m62
 repeat' first | with_reducible exact le65 _ | with_reducible exact le66 _ | with_reducible exact Le.refl _ | intro _ | apply Le.bind | apply Le.cond | apply Le.nil | apply Le.loop | apply Le.elim
def m35F:((Int×(List (Int×Int×Int×Int))×List (Int×Int×Int×Int×Int))×Int×Int)→Option ((Int×Int×Int×Int)×Int) :=
 fun x=>(m36F (x.1.1,x.1.2.1,x.1.2.2)).bind fun r=>(m62F (r.1.1,r.1.2)).bind fun r_1=>(m62F (r.2.1,r.2.2)).bind fun r_2=>(bif PE.notM (PE.orM
 (PE.notM (eqM r_1.2 0)) (PE.notM (eqM r_2.2 0))) then idxM r_1.1 x.2.1 else some []).bind fun r_3=>(bif PE.notM (PE.orM (PE.notM (eqM r_1.2 0)) (PE.notM
 (eqM r_2.2 0))) then idxM r_3 x.2.2 else some 0).bind fun r_4=>bif PE.orM (PE.orM (PE.notM (eqM r_1.2 0)) (PE.notM (eqM r_2.2 0))) (eqM r_4
 1152921504606846976) then some ((0,0,0,0),100) else (idxM r_1.1 x.2.2).bind fun r_5=>(idxM r_5 x.2.1).bind fun r_6=>(idxM r_1.1 x.2.1).bind fun r_7 =>
 (idxM r_7 x.2.2).bind fun r_8=>(idxM r_2.1 x.2.2).bind fun r_9=>(idxM r_9 x.2.1).bind fun r_10=>(idxM r_2.1 x.2.1).bind fun r_11=>(idxM r_11
 x.2.2).bind fun r=>some ((wrap IntKind.i64 (negM r_6),r_8,wrap IntKind.i64 (negM r_10),r),0)
theorem le35 (x):Le (m35F x) (m35 x):=by
 unfold m35F m35
 repeat' first | with_reducible exact le36 _ | with_reducible exact le62 _ | with_reducible exact Le.refl _ | intro _ | apply Le.bind | apply Le.cond | apply Le.nil | apply Le.loop | apply Le.elim
def m13F:((Int×(List (Int×Int×Int×Int))×List (Int×Int×Int×Int×Int))×Int)→Option ((Int×Int×Int×Int)×Int) :=
 fun x=>(m19F (x.1.1,x.1.2.1,x.1.2.2)).bind fun r=>(bif PE.notM (PE.notM r) then m34 (x.2,0,wrap IntKind.i64 (x.1.1-1)) else some false).bind fun r_1
 => bif PE.orM (PE.notM r) (PE.notM r_1) then some ((0,0,0,0),100) else (m35F ((x.1.1,x.1.2.1,x.1.2.2),x.1.1,x.2)).bind fun r=>some ((r.1.1,r.1.2.1,
 r.1.2.2.1,r.1.2.2.2),r.2)
theorem le13 (x):Le (m13F x) (m13 x):=by
 unfold m13F m13
 repeat' first | with_reducible exact le19 _ | with_reducible exact le35 _ | with_reducible exact Le.refl _ | intro _ | apply Le.bind | apply Le.cond | apply Le.nil | apply Le.loop | apply Le.elim
def m14F:((Int×(List (Int×Int×Int×Int))×List (Int×Int×Int×Int×Int))×Int×Int)→Option ((Int×Int×Int×Int)×Int) :=
 fun x=>(m19F (x.1.1,x.1.2.1,x.1.2.2)).bind fun r=>(bif PE.notM (PE.notM r) then m34 (x.2.1,0,wrap IntKind.i64 (x.1.1-1)) else some false).bind fun r_1
 => (bif PE.notM (PE.orM (PE.notM r) (PE.notM r_1)) then m34 (x.2.2,0,wrap IntKind.i64 (x.1.1-1)) else some false).bind fun r_2=>bif PE.orM (PE.orM
 (PE.notM r) (PE.notM r_1)) (PE.notM r_2) then some ((0,0,0,0),100) else (m35F ((x.1.1,x.1.2.1,x.1.2.2),x.2.1,x.2.2)).bind fun r=>some ((r.1.1,
 r.1.2.1,r.1.2.2.1,r.1.2.2.2),r.2)
theorem le14 (x):Le (m14F x) (m14 x):=by
 unfold m14F m14
 repeat' first | with_reducible exact le19 _ | with_reducible exact le35 _ | with_reducible exact Le.refl _ | intro _ | apply Le.bind | apply Le.cond | apply Le.nil | apply Le.loop | apply Le.elim
def m26F:(Int×Int)→Option (Int) :=
 fun x=>(loopF (fun (s:Int×Int)=>bif PE.notM (eqM s.2 0) then (remM s.1 s.2).bind fun r=>some (Sum.inl (s.2,r)) else some (Sum.inr s.1)) (x.1,
 x.2)).bind fun o=>some (max o (wrap IntKind.i64 (negM o)))
theorem le26 (x):Le (m26F x) (m26 x):=by
 unfold m26F m26
 repeat' first | with_reducible exact Le.refl _ | intro _ | apply Le.bind | apply Le.cond | apply Le.nil | apply Le.loop | apply Le.elim
def m6F:(Int×(List (Int×Int×Int×Int))×List (Int×Int×Int×Int×Int))→Option ((List Int×List Int×Int)×Int) :=
 fun x=>(m19F (x.1,x.2.1,x.2.2)).bind fun r=>bif PE.notM r then some (([],[],0),100) else (loopF (fun (s:Int×List Int)=>bif ltM s.1 (lenM x.2.1)
 then (idxM x.2.1 s.1).bind fun r_1=>(bif eqM r_1.1 x.1 then some s.2 else (chkM r_1.1 ↑(nat_lit 8)).bind fun r_2=>(chkM r_1.1 ↑(nat_lit 10)).bind fun r_3
 => (idxM s.2 (↑(nat_lit 0)+r_1.1*↑(nat_lit 10)+r_1.1*↑(nat_lit 1))).bind fun r_4=>(chkM r_1.1 ↑(nat_lit 8)).bind fun r_5=>(chkM r_1.1 ↑(nat_lit
 10)).bind fun r_6=>(setM s.2 (↑(nat_lit 0)+r_1.1*↑(nat_lit 10)+r_1.1*↑(nat_lit 1)) fun (x:Int)=>some (wrap IntKind.i64 (r_4+1))).bind fun r_7
 => (chkM r_1.1 ↑(nat_lit 8)).bind fun r_8=>(idxM r_7 (↑(nat_lit 0)+r_1.1*↑(nat_lit 10)+8)).bind fun r_9=>(chkM r_1.1 ↑(nat_lit 8)).bind fun r_10 =>
 (setM r_7 (↑(nat_lit 0)+r_1.1*↑(nat_lit 10)+8) fun (x:Int)=>some (wrap IntKind.i64 (r_9+r_1.2.1))).bind fun r_11=>(chkM r_1.1 ↑(nat_lit 8)).bind
 fun r_12=>(idxM r_11 (↑(nat_lit 0)+r_1.1*↑(nat_lit 10)+9)).bind fun r_13=>(chkM r_1.1 ↑(nat_lit 8)).bind fun r_14=>(setM r_11 (↑(nat_lit 0) +
 r_1.1*↑(nat_lit 10)+9) fun (x:Int)=>some (wrap IntKind.i64 (r_13+r_1.2.2.1))).bind fun r_15=>bif ltM x.1 x.1 then (chkM r_1.1 ↑(nat_lit 8)).bind
 fun r_16=>(chkM x.1 ↑(nat_lit 10)).bind fun r_17=>(idxM r_15 (↑(nat_lit 0)+r_1.1*↑(nat_lit 10)+x.1*↑(nat_lit 1))).bind fun r_18=>(chkM r_1.1
 ↑(nat_lit 8)).bind fun r_19=>(chkM x.1 ↑(nat_lit 10)).bind fun r_20=>(setM r_15 (↑(nat_lit 0)+r_1.1*↑(nat_lit 10)+x.1*↑(nat_lit 1)) fun (x:Int)
 => some (wrap IntKind.i64 (r_18-1))).bind fun r=>some r else some r_15).bind fun (ov:List Int)=>(bif eqM x.1 x.1 then some ov else (chkM x.1 ↑(nat_lit
 8)).bind fun r_2=>(chkM x.1 ↑(nat_lit 10)).bind fun r_3=>(idxM ov (↑(nat_lit 0)+x.1*↑(nat_lit 10)+x.1*↑(nat_lit 1))).bind fun r_4=>(chkM x.1
 ↑(nat_lit 8)).bind fun r_5=>(chkM x.1 ↑(nat_lit 10)).bind fun r_6=>(setM ov (↑(nat_lit 0)+x.1*↑(nat_lit 10)+x.1*↑(nat_lit 1)) fun (x:Int) =>
 some (wrap IntKind.i64 (r_4+1))).bind fun r_7=>(chkM x.1 ↑(nat_lit 8)).bind fun r_8=>(idxM r_7 (↑(nat_lit 0)+x.1*↑(nat_lit 10)+8)).bind fun r_9 =>
 (chkM x.1 ↑(nat_lit 8)).bind fun r_10=>(setM r_7 (↑(nat_lit 0)+x.1*↑(nat_lit 10)+8) fun (x:Int)=>some (wrap IntKind.i64 (r_9+wrap IntKind.i64
 (negM r_1.2.1)))).bind fun r_11=>(chkM x.1 ↑(nat_lit 8)).bind fun r_12=>(idxM r_11 (↑(nat_lit 0)+x.1*↑(nat_lit 10)+9)).bind fun r_13=>(chkM x.1
 ↑(nat_lit 8)).bind fun r_14=>(setM r_11 (↑(nat_lit 0)+x.1*↑(nat_lit 10)+9) fun (x:Int)=>some (wrap IntKind.i64 (r_13+wrap IntKind.i64 (negM
 r_1.2.2.1)))).bind fun r_15=>bif ltM r_1.1 x.1 then (chkM x.1 ↑(nat_lit 8)).bind fun r_16=>(chkM r_1.1 ↑(nat_lit 10)).bind fun r_17=>(idxM r_15
 (↑(nat_lit 0)+x.1*↑(nat_lit 10)+r_1.1*↑(nat_lit 1))).bind fun r_18=>(chkM x.1 ↑(nat_lit 8)).bind fun r_19=>(chkM r_1.1 ↑(nat_lit 10)).bind fun
 r_20=>(setM r_15 (↑(nat_lit 0)+x.1*↑(nat_lit 10)+r_1.1*↑(nat_lit 1)) fun (x:Int)=>some (wrap IntKind.i64 (r_18-1))).bind fun r=>some r else
 some r_15).bind fun (ov:List Int)=>some (Sum.inl (wrap IntKind.i64 (s.1+1),ov)) else some (Sum.inr s.2)) (0,[0,0,0,0,0,0,0,0,0,0,0,0,0,0,
 0,0,0,0,0,0,0,0,0,0,0,0,0,0,0,0,0,0,0,0,0,0,0,0,0,0,0,0,0,0,0,0,0,0,0,0,0,0,0,0,0,0,0,0,0,0,0,0,0,0,0,0,0,
 0,0,0,0,0,0,0,0,0,0,0,0,0])).bind fun o=>(loopF (fun (s:Int×List Int)=>bif ltM s.1 (lenM x.2.2) then (idxM x.2.2 s.1).bind fun r_1=>(bif
 eqM r_1.2.1 x.1 then some s.2 else (chkM r_1.2.1 ↑(nat_lit 8)).bind fun r_2=>(chkM r_1.2.1 ↑(nat_lit 10)).bind fun r_3=>(idxM s.2 (↑(nat_lit 0)+r_1.2.1
 * ↑(nat_lit 10)+r_1.2.1*↑(nat_lit 1))).bind fun r_4=>(chkM r_1.2.1 ↑(nat_lit 8)).bind fun r_5=>(chkM r_1.2.1 ↑(nat_lit 10)).bind fun r_6=>(setM s.2
 (↑(nat_lit 0)+r_1.2.1*↑(nat_lit 10)+r_1.2.1*↑(nat_lit 1)) fun (x:Int)=>some (wrap IntKind.i64 (r_4+1))).bind fun r_7=>(chkM r_1.2.1 ↑(nat_lit
 8)).bind fun r_8=>(idxM r_7 (↑(nat_lit 0)+r_1.2.1*↑(nat_lit 10)+8)).bind fun r_9=>(chkM r_1.2.1 ↑(nat_lit 8)).bind fun r_10=>(setM r_7 (↑(nat_lit
 0)+r_1.2.1*↑(nat_lit 10)+8) fun (x:Int)=>some (wrap IntKind.i64 (r_9+r_1.2.2.1))).bind fun r_11=>(chkM r_1.2.1 ↑(nat_lit 8)).bind fun r_12 =>
 (idxM r_11 (↑(nat_lit 0)+r_1.2.1*↑(nat_lit 10)+9)).bind fun r_13=>(chkM r_1.2.1 ↑(nat_lit 8)).bind fun r_14=>(setM r_11 (↑(nat_lit 0)+r_1.2.1 *
 ↑(nat_lit 10)+9) fun (x:Int)=>some (wrap IntKind.i64 (r_13+r_1.2.2.2.1))).bind fun r_15=>bif ltM r_1.1 x.1 then (chkM r_1.2.1 ↑(nat_lit 8)).bind fun
 r_16=>(chkM r_1.1 ↑(nat_lit 10)).bind fun r_17=>(idxM r_15 (↑(nat_lit 0)+r_1.2.1*↑(nat_lit 10)+r_1.1*↑(nat_lit 1))).bind fun r_18=>(chkM r_1.2.1
 ↑(nat_lit 8)).bind fun r_19=>(chkM r_1.1 ↑(nat_lit 10)).bind fun r_20=>(setM r_15 (↑(nat_lit 0)+r_1.2.1*↑(nat_lit 10)+r_1.1*↑(nat_lit 1)) fun (x :
 Int)=>some (wrap IntKind.i64 (r_18-1))).bind fun r=>some r else some r_15).bind fun (ov:List Int)=>(bif eqM r_1.1 x.1 then some ov else (chkM r_1.1
 ↑(nat_lit 8)).bind fun r_2=>(chkM r_1.1 ↑(nat_lit 10)).bind fun r_3=>(idxM ov (↑(nat_lit 0)+r_1.1*↑(nat_lit 10)+r_1.1*↑(nat_lit 1))).bind fun r_4
 => (chkM r_1.1 ↑(nat_lit 8)).bind fun r_5=>(chkM r_1.1 ↑(nat_lit 10)).bind fun r_6=>(setM ov (↑(nat_lit 0)+r_1.1*↑(nat_lit 10)+r_1.1*↑(nat_lit 1))
 fun (x:Int)=>some (wrap IntKind.i64 (r_4+1))).bind fun r_7=>(chkM r_1.1 ↑(nat_lit 8)).bind fun r_8=>(idxM r_7 (↑(nat_lit 0)+r_1.1*↑(nat_lit 10)
 + 8)).bind fun r_9=>(chkM r_1.1 ↑(nat_lit 8)).bind fun r_10=>(setM r_7 (↑(nat_lit 0)+r_1.1*↑(nat_lit 10)+8) fun (x:Int)=>some (wrap IntKind.i64
 (r_9+wrap IntKind.i64 (negM r_1.2.2.1)))).bind fun r_11=>(chkM r_1.1 ↑(nat_lit 8)).bind fun r_12=>(idxM r_11 (↑(nat_lit 0)+r_1.1*↑(nat_lit 10) +
 9)).bind fun r_13=>(chkM r_1.1 ↑(nat_lit 8)).bind fun r_14=>(setM r_11 (↑(nat_lit 0)+r_1.1*↑(nat_lit 10)+9) fun (x:Int)=>some (wrap IntKind.i64
 (r_13+wrap IntKind.i64 (negM r_1.2.2.2.1)))).bind fun r_15=>bif ltM r_1.2.1 x.1 then (chkM r_1.1 ↑(nat_lit 8)).bind fun r_16=>(chkM r_1.2.1 ↑(nat_lit
 10)).bind fun r_17=>(idxM r_15 (↑(nat_lit 0)+r_1.1*↑(nat_lit 10)+r_1.2.1*↑(nat_lit 1))).bind fun r_18=>(chkM r_1.1 ↑(nat_lit 8)).bind fun r_19 =>
 (chkM r_1.2.1 ↑(nat_lit 10)).bind fun r_20=>(setM r_15 (↑(nat_lit 0)+r_1.1*↑(nat_lit 10)+r_1.2.1*↑(nat_lit 1)) fun (x:Int)=>some (wrap
 IntKind.i64 (r_18-1))).bind fun r=>some r else some r_15).bind fun (ov:List Int)=>some (Sum.inl (wrap IntKind.i64 (s.1+1),ov)) else some (Sum.inr
 s.2)) (0,o)).bind fun o_1=>((loopF (fun (s:Int×Int×List Int)=>bif ltM s.2.1 x.1 then (loopF (fun (s_1:Int)=>(bif ltM s_1 x.1 then chkM s_1
 ↑(nat_lit 8) else some ()).bind fun r_1=>(bif ltM s_1 x.1 then chkM s.2.1 ↑(nat_lit 10) else some ()).bind fun r_2=>(bif ltM s_1 x.1 then idxM s.2.2
 (↑(nat_lit 0)+s_1*↑(nat_lit 10)+s.2.1*↑(nat_lit 1)) else some 0).bind fun r=>bif PE.andM (ltM s_1 x.1) (eqM r 0) then some (Sum.inl (wrap
 IntKind.i64 (s_1+1))) else some (Sum.inr s_1)) s.2.1).bind fun o_2=>bif eqM o_2 x.1 then some (Sum.inr (Sum.inr (0,s.2.2))) else (chkM s.2.1 ↑(nat_lit
 8)).bind fun r_1=>(sliceM s.2.2 (↑(nat_lit 0)+s.2.1*↑(nat_lit 10)) (↑(nat_lit 0)+s.2.1*↑(nat_lit 10)+↑(nat_lit 10))).bind fun r_2=>(chkM o_2
 ↑(nat_lit 8)).bind fun r_3=>(sliceM s.2.2 (↑(nat_lit 0)+o_2*↑(nat_lit 10)) (↑(nat_lit 0)+o_2*↑(nat_lit 10)+↑(nat_lit 10))).bind fun r_4=>(chkM
 o_2 ↑(nat_lit 8)).bind fun r_5=>(putM s.2.2 (↑(nat_lit 0)+o_2*↑(nat_lit 10)) [nthD r_2 (nat_lit 0) 0,nthD r_2 (nat_lit 1) 0,nthD r_2 (nat_lit 2) 0,
 nthD r_2 (nat_lit 3) 0,nthD r_2 (nat_lit 4) 0,nthD r_2 (nat_lit 5) 0,nthD r_2 (nat_lit 6) 0,nthD r_2 (nat_lit 7) 0,nthD r_2 (nat_lit 8) 0,nthD r_2
 (nat_lit 9) 0]).bind fun r_6=>(chkM s.2.1 ↑(nat_lit 8)).bind fun r_7=>(putM r_6 (↑(nat_lit 0)+s.2.1*↑(nat_lit 10)) [nthD r_4 (nat_lit 0) 0,nthD r_4
 (nat_lit 1) 0,nthD r_4 (nat_lit 2) 0,nthD r_4 (nat_lit 3) 0,nthD r_4 (nat_lit 4) 0,nthD r_4 (nat_lit 5) 0,nthD r_4 (nat_lit 6) 0,nthD r_4 (nat_lit 7) 0,
 nthD r_4 (nat_lit 8) 0,nthD r_4 (nat_lit 9) 0]).bind fun r_8=>(loopF (fun (s_1:Int×List Int)=>bif ltM s_1.1 x.1 then (bif eqM s_1.1 s.2.1 then some
 s_1.2 else (chkM s_1.1 ↑(nat_lit 8)).bind fun r_9=>(chkM s.2.1 ↑(nat_lit 10)).bind fun r_10=>(idxM s_1.2 (↑(nat_lit 0)+s_1.1*↑(nat_lit 10)+s.2.1 *
 ↑(nat_lit 1))).bind fun r_11=>(loopF (fun (s_2:Int×List Int)=>bif ltM s_2.1 10 then (chkM s_1.1 ↑(nat_lit 8)).bind fun r_12=>(chkM s_2.1 ↑(nat_lit
 10)).bind fun r_13=>(idxM s_2.2 (↑(nat_lit 0)+s_1.1*↑(nat_lit 10)+s_2.1*↑(nat_lit 1))).bind fun r_14=>(chkM s.2.1 ↑(nat_lit 8)).bind fun r_15 =>
 (chkM s.2.1 ↑(nat_lit 10)).bind fun r_16=>(idxM s_2.2 (↑(nat_lit 0)+s.2.1*↑(nat_lit 10)+s.2.1*↑(nat_lit 1))).bind fun r_17=>(chkM s.2.1 ↑(nat_lit
 8)).bind fun r_18=>(chkM s_2.1 ↑(nat_lit 10)).bind fun r_19=>(idxM s_2.2 (↑(nat_lit 0)+s.2.1*↑(nat_lit 10)+s_2.1*↑(nat_lit 1))).bind fun r_20 =>
 (divM IntKind.i64 (wrap IntKind.i64 (wrap IntKind.i64 (r_14*r_17)-wrap IntKind.i64 (r_11*r_20))) s.1).bind fun r_21=>(chkM s_1.1 ↑(nat_lit 8)).bind
 fun r_22=>(chkM s_2.1 ↑(nat_lit 10)).bind fun r_23=>(setM s_2.2 (↑(nat_lit 0)+s_1.1*↑(nat_lit 10)+s_2.1*↑(nat_lit 1)) fun (x:Int)=>some
 r_21).bind fun r=>some (Sum.inl (wrap IntKind.i64 (s_2.1+1),r)) else some (Sum.inr s_2.2)) (0,s_1.2)).bind fun o=>some o).bind fun o=>some (Sum.inl
 (wrap IntKind.i64 (s_1.1+1),o)) else some (Sum.inr s_1.2)) (0,r_8)).bind fun o_3=>(chkM s.2.1 ↑(nat_lit 8)).bind fun r_9=>(chkM s.2.1 ↑(nat_lit
 10)).bind fun r_10=>(idxM o_3 (↑(nat_lit 0)+s.2.1*↑(nat_lit 10)+s.2.1*↑(nat_lit 1))).bind fun r=>some (Sum.inl (r,wrap IntKind.i64 (s.2.1+1),
 o_3)) else some (Sum.inr (Sum.inl (s.1,s.2.2)))) (1,0,o_1)).bind fun o=>Sum.elim (fun (t:Int×List Int)=>some (t.1,t.2)) (fun (t:Int×List Int)
 => some (t.1,t.2)) o).bind fun (ov:Int×List Int)=>bif eqM ov.1 0 then some (([],[],0),100) else (loopF (fun (s:Int×Int×Int×List Int×List
 Int)=>bif ltM s.2.1 x.1 then (chkM s.2.1 ↑(nat_lit 8)).bind fun r_1=>(idxM ov.2 (↑(nat_lit 0)+s.2.1*↑(nat_lit 10)+8)).bind fun r_2=>(appM (nat_lit
 8) s.2.2.2.1 [r_2]).bind fun r_3=>(chkM s.2.1 ↑(nat_lit 8)).bind fun r_4=>(idxM ov.2 (↑(nat_lit 0)+s.2.1*↑(nat_lit 10)+9)).bind fun r_5=>(appM
 (nat_lit 8) s.2.2.2.2 [r_5]).bind fun r_6=>(chkM s.2.1 (lenM r_3)).bind fun r_7=>(idxM r_3 s.2.1).bind fun r_8=>(m26F (s.1,r_8)).bind fun r_9=>(chkM
 s.2.1 (lenM r_6)).bind fun r_10=>(idxM r_6 s.2.1).bind fun r_11=>(m26F (r_9,r_11)).bind fun r=>some (Sum.inl (r,wrap IntKind.i64 (s.2.1+1),s.2.2.1,
 r_3,r_6)) else some (Sum.inr (s.1,s.2.2.1,s.2.2.2.1,s.2.2.2.2))) (ov.1,0,ov.1,[],[])).bind fun o_2=>(bif ltM ov.1 0 then some (wrap IntKind.i64
 (negM o_2.1)) else some o_2.1).bind fun o_3=>(divM IntKind.i64 o_2.2.1 o_3).bind fun r_1=>(loopF (fun (s:Int×List Int×List Int)=>bif ltM s.1 x.1
 then (chkM s.1 (lenM s.2.1)).bind fun r_2=>(idxM s.2.1 s.1).bind fun r_3=>(divM IntKind.i64 r_3 o_3).bind fun r_4=>(chkM s.1 (lenM s.2.1)).bind fun r_5
 => (setM s.2.1 s.1 fun (x:Int)=>some r_4).bind fun r_6=>(chkM s.1 (lenM s.2.2)).bind fun r_7=>(idxM s.2.2 s.1).bind fun r_8=>(divM IntKind.i64 r_8
 o_3).bind fun r_9=>(chkM s.1 (lenM s.2.2)).bind fun r_10=>(setM s.2.2 s.1 fun (x:Int)=>some r_9).bind fun r=>some (Sum.inl (wrap IntKind.i64 (s.1 +
 1),r_6,r)) else some (Sum.inr (s.2.1,s.2.2))) (0,o_2.2.2.1,o_2.2.2.2)).bind fun o=>some ((o.1,o.2,r_1),0)
theorem le6 (x):Le (m6F x) (m6 x):=by
 unfold m6F m6
 repeat' first | with_reducible exact le19 _ | with_reducible exact le26 _ | with_reducible exact Le.refl _ | intro _ | apply Le.bind | apply Le.cond | apply Le.nil | apply Le.loop | apply Le.elim
def m69F:((Int×List (Int×Int×Int))×List (List (List Int))×Int×Int×Int×Int)→Option (List Int) :=
 fun x=>(loopF (fun (s:Int×Int×Int×List Int)=>bif ltM 0 s.2.1 then ((loopF (fun (s_1:Int)=>bif ltM s_1 (lenM x.1.2) then (idxM x.1.2 s_1).bind
 fun r=>(bif eqM r.1 s.1 then idxM x.2.1 (wrap IntKind.i64 (s.2.1-1)) else some []).bind fun r_1=>(bif eqM r.1 s.1 then idxM r_1 r.2.1 else some []).bind
 fun r_2=>(bif eqM r.1 s.1 then idxM r_2 x.2.2.2.1 else some 0).bind fun r_3=>(bif eqM r.1 s.1 then m68 (r.2.2,r_3) else some 0).bind fun r_4=>bif
 PE.andM (eqM r.1 s.1) (leM r_4 s.2.2.1) then some (Sum.inr (Sum.inr s_1)) else some (Sum.inl (wrap IntKind.i64 (s_1+1))) else some (Sum.inr (Sum.inl ())))
 0).bind fun o=>Sum.elim (fun (t:Unit)=>some (-1)) (fun (t:Int)=>some t) o).bind fun (ov:Int)=>(idxM x.1.2 ov).bind fun r=>(idxM x.1.2 ov).bind
 fun r_1=>(appM (nat_lit 8) s.2.2.2 [ov]).bind fun r_2=>some (Sum.inl (r.2.1,wrap IntKind.i64 (s.2.1-1),wrap IntKind.i64 (s.2.2.1-r_1.2.2),r_2))
 else some (Sum.inr (s.1,s.2.1,s.2.2.1,s.2.2.2))) (x.2.2.1,x.2.2.2.2.1,x.2.2.2.2.2,[])).bind fun o=>some o.2.2.2
theorem le69 (x):Le (m69F x) (m69 x):=by
 unfold m69F m69
 repeat' first | with_reducible exact Le.refl _ | intro _ | apply Le.bind | apply Le.cond | apply Le.nil | apply Le.loop | apply Le.elim
def m37F:(Int×List (Int×Int×Int))→Option (List Int×Bool) :=
 fun x=>(m65F (x.1,x.2)).bind fun r=>bif PE.notM r then some ([],false) else (m66F (x.1,x.2)).bind fun r_1=>bif r_1.2 then some ([],false) else (m97F
 x.1).bind fun r_2=>(loopF (fun (s:List (List Int)×List (List (List Int)))=>(appM (nat_lit 24) s.2 [s.1]).bind fun r_3=>(loopF (fun (s_1:Int) =>
 bif ltM s_1 (lenM x.2) then (idxM x.2 s_1).bind fun r_4=>(bif ltM 0 (wrap IntKind.i64 (lenM r_3-1)) then chkM (wrap IntKind.i64 (wrap IntKind.i64 (lenM
 r_3-1)-1)) (lenM r_3) else some ()).bind fun r_5=>(bif ltM 0 (wrap IntKind.i64 (lenM r_3-1)) then idxM r_3 (wrap IntKind.i64 (wrap IntKind.i64 (lenM
 r_3-1)-1)) else some []).bind fun r_6=>(bif ltM 0 (wrap IntKind.i64 (lenM r_3-1)) then idxM r_6 r_4.2.1 else some []).bind fun r_7=>(bif ltM 0 (wrap
 IntKind.i64 (lenM r_3-1)) then idxM r_7 r_4.1 else some 0).bind fun r_8=>(bif ltM 0 (wrap IntKind.i64 (lenM r_3-1)) then m68 (r_4.2.2,r_8) else some
 0).bind fun r_9=>bif PE.andM (ltM 0 (wrap IntKind.i64 (lenM r_3-1))) (ltM r_9 0) then (m69F ((x.1,x.2),r_3,r_4.2.1,r_4.1,wrap IntKind.i64 (wrap
 IntKind.i64 (lenM r_3-1)-1),wrap IntKind.i64 ((-1)-r_4.2.2))).bind fun r_10=>(appM (nat_lit 8) [s_1] r_10).bind fun r=>some (Sum.inr (Sum.inr (r,
 true,r_3))) else some (Sum.inl (wrap IntKind.i64 (s_1+1))) else some (Sum.inr (Sum.inl ()))) 0).bind fun o=>Sum.elim (fun (t:Unit)=>(mkM x.1 x.1
 (nat_lit 24) []).bind fun r_4=>(loopF (fun (s_1:Int×List (List Int))=>bif ltM s_1.1 x.1 then (loopF (fun (s_2:Int×List (List Int))=>bif ltM
 s_2.1 x.1 then (chkM s_1.1 (lenM s_2.2)).bind fun r_5=>(chkM s_1.1 (lenM s_2.2)).bind fun r_6=>(m100 (s_1.1,s_2.1)).bind fun r_7=>(app2M (nat_lit 8)
 s_2.2 s_1.1 [r_7]).bind fun r_8=>(chkM s_1.1 (lenM r_8)).bind fun r_9=>((sameM s_1.1 s_1.1).bind fun (x:Unit)=>(sameM s_1.1 s_1.1).bind fun (x:Unit)
 => chkM s_1.1 (lenM r_8)).bind fun r=>some (Sum.inl (wrap IntKind.i64 (s_2.1+1),r_8)) else some (Sum.inr s_2.2)) (0,s_1.2)).bind fun o=>some (Sum.inl
 (wrap IntKind.i64 (s_1.1+1),o)) else some (Sum.inr s_1.2)) (0,r_4)).bind fun o=>(loopF (fun (s_1:Int×List (List Int))=>bif ltM s_1.1 (lenM x.2)
 then (idxM x.2 s_1.1).bind fun r_5=>(loopF (fun (s_2:Int×List (List Int))=>bif ltM s_2.1 x.1 then (chkM s_2.1 (lenM s_2.2)).bind fun r_6=>(chkM
 s_2.1 (lenM s_2.2)).bind fun r_7=>(chkM s_2.1 (lenM s_2.2)).bind fun r_8=>(chkM s_2.1 (lenM s_2.2)).bind fun r_9=>((idxM s_2.2 s_2.1).bind fun (xs :
 List Int)=>chkM r_5.2.1 (lenM xs)).bind fun r_10=>((idxM s_2.2 s_2.1).bind fun (xs:List Int)=>(idxM xs r_5.2.1).bind fun (x:Int)=>some x).bind fun
 r_11=>(idxM s.1 s_2.1).bind fun r_12=>(idxM r_12 r_5.1).bind fun r_13=>(m68 (r_13,r_5.2.2)).bind fun r_14=>((idxM s_2.2 s_2.1).bind fun (xs:List
 Int)=>chkM r_5.2.1 (lenM xs)).bind fun r_15=>(set2M s_2.2 s_2.1 r_5.2.1 fun (x:Int)=>some (min r_11 r_14)).bind fun r=>some (Sum.inl (wrap
 IntKind.i64 (s_2.1+1),r)) else some (Sum.inr s_2.2)) (0,s_1.2)).bind fun o=>some (Sum.inl (wrap IntKind.i64 (s_1.1+1),o)) else some (Sum.inr s_1.2))
 (0,o)).bind fun o=>some (Sum.inl (o,r_3))) (fun (t:List Int×Bool×List (List (List Int)))=>some (Sum.inr (t.1,t.2.1,t.2.2))) o) (r_2,[])).bind
 fun o=>some (o.1,o.2.1)
theorem le37 (x):Le (m37F x) (m37 x):=by
 unfold m37F m37
 repeat' first | with_reducible exact le65 _ | with_reducible exact le66 _ | with_reducible exact le69 _ | with_reducible exact le97 _ | with_reducible exact Le.refl _ | intro _ | apply Le.bind | apply Le.cond | apply Le.nil | apply Le.loop | apply Le.elim
def m15F:(Int×(List (Int×Int×Int×Int))×List (Int×Int×Int×Int×Int))→Option (List Int×Bool) :=
 fun x=>(m19F (x.1,x.2.1,x.2.2)).bind fun r=>bif PE.notM r then some ([],false) else (m36F (x.1,x.2.1,x.2.2)).bind fun r_1=>((m37F (r_1.1.1,
 r_1.1.2)).bind fun r=>bif PE.andM r.2 (PE.orM true (ltM (lenM r.1) 0)) then some (r.1,true) else some ([],false)).bind fun o=>((m37F (r_1.2.1,
 r_1.2.2)).bind fun r=>bif PE.andM r.2 (PE.orM (PE.notM o.2) (ltM (lenM r.1) (lenM o.1))) then some (r.1,true) else some (o.1,o.2)).bind fun o_1=>(loopF
 (fun (s:Int×List Int)=>bif ltM s.1 (lenM o_1.1) then (idxM o_1.1 s.1).bind fun r_2=>(divM IntKind.i64 r_2 2).bind fun r_3=>(appM (nat_lit 8) s.2
 [r_3]).bind fun r=>some (Sum.inl (wrap IntKind.i64 (s.1+1),r)) else some (Sum.inr s.2)) (0,[])).bind fun o_2=>(sortI o_2).bind fun r_2=>(compI
 r_2).bind fun r=>some (r,o_1.2)
theorem le15 (x):Le (m15F x) (m15 x):=by
 unfold m15F m15
 repeat' first | with_reducible exact le19 _ | with_reducible exact le36 _ | with_reducible exact le37 _ | with_reducible exact Le.refl _ | intro _ | apply Le.bind | apply Le.cond | apply Le.nil | apply Le.loop | apply Le.elim
def m45F:(List Int×List Int)→Option (Bool) :=
 fun x=>bif PE.notM (eqM (lenM x.1) (lenM x.2)) then some false else (loopF (fun (s:Int)=>bif ltM s (lenM x.1) then (idxM x.1 s).bind fun r=>(idxM x.2
 s).bind fun r_1=>bif PE.notM (eqM r r_1) then some (Sum.inr (Sum.inr false)) else some (Sum.inl (wrap IntKind.i64 (s+1))) else some (Sum.inr (Sum.inl
 ()))) 0).bind fun o=>Sum.elim (fun (t:Unit)=>some true) (fun (t:Bool)=>some t) o
theorem le45 (x):Le (m45F x) (m45 x):=by
 unfold m45F m45
 repeat' first | with_reducible exact Le.refl _ | intro _ | apply Le.bind | apply Le.cond | apply Le.nil | apply Le.loop | apply Le.elim
def m18F:(List Int×List Int)→Option (Bool) :=
 fun x=>(m45F (x.1,x.2)).bind fun r=>some r
theorem le18 (x):Le (m18F x) (m18 x):=by
 unfold m18F m18
 repeat' first | with_reducible exact le45 _ | with_reducible exact Le.refl _ | intro _ | apply Le.bind | apply Le.cond | apply Le.nil | apply Le.loop | apply Le.elim
def m16F:((List Int×List Int×Int)×List Int×List Int×Int)→Option (Bool) :=
 fun x=>(m18F (x.1.1,x.2.1)).bind fun r=>(bif r then m18F (x.1.2.1,x.2.2.1) else some false).bind fun r_1=>some (PE.andM (PE.andM r r_1) (eqM x.1.2.2
 x.2.2.2))
theorem le16 (x):Le (m16F x) (m16 x):=by
 unfold m16F m16
 repeat' first | with_reducible exact le18 _ | with_reducible exact Le.refl _ | intro _ | apply Le.bind | apply Le.cond | apply Le.nil | apply Le.loop | apply Le.elim
def m17F:((Int×(List (Int×Int×Int×Int))×List (Int×Int×Int×Int×Int))×List (Int×Int))→Option (Bool) :=
 fun x=>(m19F (x.1.1,x.1.2.1,x.1.2.2)).bind fun r=>(bif PE.notM (PE.orM (PE.notM r) (PE.notM (eqM (lenM x.2) x.1.1))) then ((loopF (fun (s:Int)=>bif
 ltM s (lenM x.2) then (idxM x.2 s).bind fun r_1=>(m41 (r_1.1,r_1.2)).bind fun r=>bif r then some (Sum.inr (Sum.inr s)) else some (Sum.inl (wrap
 IntKind.i64 (s+1))) else some (Sum.inr (Sum.inl ()))) 0).bind fun o=>Sum.elim (fun (t:Unit)=>some (-1)) (fun (t:Int)=>some t) o).bind fun (ov :
 Int)=>some (leM 0 ov) else some false).bind fun (ov:Bool)=>bif PE.orM (PE.orM (PE.notM r) (PE.notM (eqM (lenM x.2) x.1.1))) ov then some false else
 (mo43 x.2).bind fun r_1=>(appM (nat_lit 16) r_1 [(0,0)]).bind fun r_2=>(loopF (fun (s:Int)=>bif ltM s (lenM x.1.2.1) then (idxM x.1.2.1 s).bind fun
 r_3=>(chkM r_3.1 (lenM r_2)).bind fun r_4=>((idxM r_2 r_3.1).bind fun (x:Int×Int)=>some x.1).bind fun r_5=>(chkM x.1.1 (lenM r_2)).bind fun r_6 =>
 ((idxM r_2 x.1.1).bind fun (x:Int×Int)=>some x.1).bind fun r_7=>(chkM r_3.1 (lenM r_2)).bind fun r_8=>((idxM r_2 r_3.1).bind fun (x:Int×Int) =>
 some x.2).bind fun r_9=>(chkM x.1.1 (lenM r_2)).bind fun r_10=>((idxM r_2 x.1.1).bind fun (x:Int×Int)=>some x.2).bind fun r_11=>(m42 (wrap
 IntKind.i64 (wrap IntKind.i64 (r_5-r_7)-r_3.2.1),wrap IntKind.i64 (wrap IntKind.i64 (r_9-r_11)-r_3.2.2.1),r_3.2.2.2)).bind fun r=>bif PE.notM r
 then some (Sum.inr (Sum.inr false)) else some (Sum.inl (wrap IntKind.i64 (s+1))) else some (Sum.inr (Sum.inl ()))) 0).bind fun o=>Sum.elim (fun (t:Unit)
 => (loopF (fun (s:Int)=>bif ltM s (lenM x.1.2.2) then (idxM x.1.2.2 s).bind fun r_3=>(chkM r_3.2.1 (lenM r_2)).bind fun r_4=>((idxM r_2 r_3.2.1).bind
 fun (x:Int×Int)=>some x.1).bind fun r_5=>(chkM r_3.1 (lenM r_2)).bind fun r_6=>((idxM r_2 r_3.1).bind fun (x:Int×Int)=>some x.1).bind fun r_7
 => (chkM r_3.2.1 (lenM r_2)).bind fun r_8=>((idxM r_2 r_3.2.1).bind fun (x:Int×Int)=>some x.2).bind fun r_9=>(chkM r_3.1 (lenM r_2)).bind fun r_10
 => ((idxM r_2 r_3.1).bind fun (x:Int×Int)=>some x.2).bind fun r_11=>(m42 (wrap IntKind.i64 (wrap IntKind.i64 (r_5-r_7)-r_3.2.2.1),wrap
 IntKind.i64 (wrap IntKind.i64 (r_9-r_11)-r_3.2.2.2.1),r_3.2.2.2.2)).bind fun r=>bif PE.notM r then some (Sum.inr (Sum.inr false)) else some (Sum.inl
 (wrap IntKind.i64 (s+1))) else some (Sum.inr (Sum.inl ()))) 0).bind fun o=>Sum.elim (fun (t:Unit)=>some true) (fun (t:Bool)=>some t) o) (fun (t :
 Bool)=>some t) o
theorem le17 (x):Le (m17F x) (m17 x):=by
 unfold m17F m17
 repeat' first | with_reducible exact le19 _ | with_reducible exact Le.refl _ | intro _ | apply Le.bind | apply Le.cond | apply Le.nil | apply Le.loop | apply Le.elim
def m4F:Unit→Option (Bool) :=
 fun x=>(appM (nat_lit 40) [] [(0,1,100,0,3),(1,2,0,50,1),(0,2,104,48,2)]).bind fun r=>(chkM 2 (lenM r)).bind fun r_1=>(setM r 2 fun (x:Int
 × Int×Int×Int×Int)=>some (x.1,x.2.1,111,x.2.2.2)).bind fun r_2=>(m13F ((3,[(0,0,0,2)],[(0,1,100,0,3),(1,2,0,50,1),(0,2,104,48,
 2)]),0)).bind fun r_3=>(m13F ((3,[(0,0,0,2)],[(0,1,100,0,3),(1,2,0,50,1),(0,2,104,48,2)]),1)).bind fun r_4=>(m13F ((3,[(0,0,0,
 2)],[(0,1,100,0,3),(1,2,0,50,1),(0,2,104,48,2)]),2)).bind fun r_5=>(m14F ((3,[(0,0,0,2)],[(0,1,100,0,3),(1,2,0,50,1),(0,2,
 104,48,2)]),0,2)).bind fun r_6=>(m6F (3,[(0,0,0,2)],[(0,1,100,0,3),(1,2,0,50,1),(0,2,104,48,2)])).bind fun r_7=>(m15F (3,[(0,0,
 0,2)],r_2)).bind fun r_8=>(m15F (3,[(0,0,0,2)],[(0,1,100,0,3),(1,2,0,50,1),(0,2,104,48,2)])).bind fun r_9=>(m13F ((3,[(0,0,0,2)],
 r_2),0)).bind fun r_10=>bif PE.orM (PE.orM (PE.orM (PE.orM (PE.orM (PE.orM (PE.orM (PE.notM (eqM r_3.2 0)) (PE.notM (eqM r_4.2 0))) (PE.notM (eqM r_5.2
 0))) (PE.notM (eqM r_6.2 0))) (PE.notM (eqM r_7.2 0))) (PE.notM (eqM r_10.2 100))) (PE.notM r_8.2)) r_9.2 then some false else (m16F ((r_7.1.1,r_7.1.2.1,
 r_7.1.2.2),[0,304,308],[0,(-2),146],3)).bind fun r_11=>(m17F ((3,[(0,0,0,2)],[(0,1,100,0,3),(1,2,0,50,1),(0,2,104,48,2)]),[(0,
 0),(101,(-1)),(102,48)])).bind fun r_12=>(bif r_12 then m17F ((3,[(0,0,0,2)],[(0,1,100,0,3),(1,2,0,50,1),(0,2,104,48,2)]),[(0,0),
 (104,(-1)),(103,48)]) else some false).bind fun r_13=>(bif PE.andM (PE.andM (PE.andM (PE.andM (PE.andM (PE.andM (eqM r_3.1.1 (-2)) (PE.andM (eqM
 r_3.1.2.1 2) (PE.andM (eqM r_3.1.2.2.1 (-2)) (eqM r_3.1.2.2.2 2)))) (PE.andM (eqM r_4.1.1 99) (PE.andM (eqM r_4.1.2.1 105) (PE.andM (eqM r_4.1.2.2.1 (-5))
 (eqM r_4.1.2.2.2 3))))) (PE.andM (eqM r_5.1.1 100) (PE.andM (eqM r_5.1.2.1 106) (PE.andM (eqM r_5.1.2.2.1 44) (eqM r_5.1.2.2.2 52))))) (PE.andM (eqM r_6.1.1
 102) (PE.andM (eqM r_6.1.2.1 104) (PE.andM (eqM r_6.1.2.2.1 46) (eqM r_6.1.2.2.2 50))))) r_11) (PE.andM r_12 (PE.notM r_13)) then m18F (r_8.1,[1,2,3]) else
 some false).bind fun r_14=>(bif PE.andM (PE.andM (PE.andM (PE.andM (PE.andM (PE.andM (PE.andM (eqM r_3.1.1 (-2)) (PE.andM (eqM r_3.1.2.1 2) (PE.andM (eqM
 r_3.1.2.2.1 (-2)) (eqM r_3.1.2.2.2 2)))) (PE.andM (eqM r_4.1.1 99) (PE.andM (eqM r_4.1.2.1 105) (PE.andM (eqM r_4.1.2.2.1 (-5)) (eqM r_4.1.2.2.2 3)))))
 (PE.andM (eqM r_5.1.1 100) (PE.andM (eqM r_5.1.2.1 106) (PE.andM (eqM r_5.1.2.2.1 44) (eqM r_5.1.2.2.2 52))))) (PE.andM (eqM r_6.1.1 102) (PE.andM (eqM
 r_6.1.2.1 104) (PE.andM (eqM r_6.1.2.2.1 46) (eqM r_6.1.2.2.2 50))))) r_11) (PE.andM r_12 (PE.notM r_13))) r_14 then m19F (3,[(0,0,0,2)],[(0,1,100,0,
 3),(1,2,0,50,1),(0,2,104,48,2)]) else some false).bind fun r_15=>(bif PE.andM (PE.andM (PE.andM (PE.andM (PE.andM (PE.andM (PE.andM (PE.andM (eqM
 r_3.1.1 (-2)) (PE.andM (eqM r_3.1.2.1 2) (PE.andM (eqM r_3.1.2.2.1 (-2)) (eqM r_3.1.2.2.2 2)))) (PE.andM (eqM r_4.1.1 99) (PE.andM (eqM r_4.1.2.1 105)
 (PE.andM (eqM r_4.1.2.2.1 (-5)) (eqM r_4.1.2.2.2 3))))) (PE.andM (eqM r_5.1.1 100) (PE.andM (eqM r_5.1.2.1 106) (PE.andM (eqM r_5.1.2.2.1 44) (eqM r_5.1.2.2.2
 52))))) (PE.andM (eqM r_6.1.1 102) (PE.andM (eqM r_6.1.2.1 104) (PE.andM (eqM r_6.1.2.2.1 46) (eqM r_6.1.2.2.2 50))))) r_11) (PE.andM r_12 (PE.notM r_13)))
 r_14) r_15 then m19F (9,[],[]) else some false).bind fun r=>some (PE.andM (PE.andM (PE.andM (PE.andM (PE.andM (PE.andM (PE.andM (PE.andM (PE.andM (eqM
 r_3.1.1 (-2)) (PE.andM (eqM r_3.1.2.1 2) (PE.andM (eqM r_3.1.2.2.1 (-2)) (eqM r_3.1.2.2.2 2)))) (PE.andM (eqM r_4.1.1 99) (PE.andM (eqM r_4.1.2.1 105)
 (PE.andM (eqM r_4.1.2.2.1 (-5)) (eqM r_4.1.2.2.2 3))))) (PE.andM (eqM r_5.1.1 100) (PE.andM (eqM r_5.1.2.1 106) (PE.andM (eqM r_5.1.2.2.1 44) (eqM r_5.1.2.2.2
 52))))) (PE.andM (eqM r_6.1.1 102) (PE.andM (eqM r_6.1.2.1 104) (PE.andM (eqM r_6.1.2.2.1 46) (eqM r_6.1.2.2.2 50))))) r_11) (PE.andM r_12 (PE.notM r_13)))
 r_14) r_15) (PE.notM r))
theorem le4 (x):Le (m4F x) (m4 x):=by
 unfold m4F m4
 repeat' first | with_reducible exact le6 _ | with_reducible exact le13 _ | with_reducible exact le14 _ | with_reducible exact le15 _ | with_reducible exact le16 _ | with_reducible exact le17 _ | with_reducible exact le18 _ | with_reducible exact le19 _ | with_reducible exact Le.refl _ | intro _ | apply Le.bind | apply Le.cond | apply Le.nil | apply Le.loop | apply Le.elim
end
end Go.Proofs.YthdfmkpebafpoaaGreatDoor
namespace Go.Proofs.YthdfmkpebafpoaaGreatDoor
open Go Go.Abs Go.PE
set_option maxRecDepth 100000 in
theorem saneF:m4F ()=some true:=by kernel_rfl
theorem sane_ok:m4 ()=some true:=(le4 ()).out saneF
end Go.Proofs.YthdfmkpebafpoaaGreatDoor
namespace Go.Proofs.YthdfmkpebafpoaaGreatDoor
open Go Go.Abs Go.PE
abbrev Fix:=Int×Int×Int×Int
abbrev Sgt:=Int×Int×Int×Int×Int
abbrev Net:=Int×List Fix×List Sgt
def inB (a b c:Int):Bool:=decide (b≤a)&&decide (a≤c)
theorem inB_iff {a b c:Int}:inB a b c=true↔b≤a∧a≤c:=by simp [inB]
def nearB (x y l:Int):Bool:=inB x (-l) l&&inB y (-l) l
def fixB (n:Int) (f:Fix):Bool:=inB f.1 0 (n-1)&&nearB f.2.1 f.2.2.1 10000&&inB f.2.2.2 0 1000
def sgtB (n:Int) (s:Sgt):Bool:=inB s.1 0 (n-1)&&inB s.2.1 0 (n-1)&&!decide (s.1=s.2.1)&&nearB s.2.2.1 s.2.2.2.1 10000&&inB s.2.2.2.2 0 1000
def nval (c:Net):Bool:=(inB c.1 0 8&&decide (c.2.1.length≤8)&&decide (c.2.2.length≤20))&&(c.2.1.all (fixB c.1)&&c.2.2.all (sgtB c.1))
theorem m34_eq (a b c:Int):m34 (a,b,c)=some (inB a b c):=rfl
theorem m42_eq {x y l:Int} (h1:-9223372036854775808<l) (h2:l≤9223372036854775807):m42 (x,y,l)=some (nearB x y l):=by
 have e:IntKind.wrap IntKind.i64 (negM l)=-l:=wrap_in (n:=-l) (by omega) (by omega)
 unfold m42 nearB
 dsimp only
 rw [e,m34_eq,m34_eq,Option.bind_some]
 cases inB x (-l) l<;>rfl
theorem not_any {α:Type} (xs:List α) (p:α→Bool):(!xs.any fun x=>!p x)=xs.all p:=by
 rw [List.not_any_eq_all_not]
 simp
theorem m19_eq (c:Net):m19 c=some (nval c):=by
 obtain ⟨n,fs,ss⟩:=c
 unfold m19 nval
 dsimp only
 rw [m34_eq,Option.bind_some]
 by_cases h:inB n 0 8=true∧fs.length≤8∧ss.length≤20
 ·obtain ⟨h1,h2,h3⟩:=h
  have hn:=inB_iff.1 h1
  have e0:IntKind.wrap IntKind.i64 (n-1)=n-1:=wrap_in (by omega) (by omega)
  rw [h1,geI (a:=8) (by show (fs.length:Int)≤8;omega),geI (a:=20) (by show (ss.length:Int)≤20;omega),decide_eq_true h2,decide_eq_true h3]
  show Option.bind _ _=_
  have L1:=any_loop (xs:=fs) (fun f=>!fixB n f) (body:=fun (s:Int) =>
        bif ltM s (lenM fs) then
         Option.bind (idxM fs s) fun (r_1:Int×Int×Int×Int) =>
          Option.bind (m34 (r_1.1,(0:Int),IntKind.wrap IntKind.i64 (n-(1:Int)))) fun (r_2:Bool) =>
           Option.bind (bif PE.notM (PE.notM r_2) then m42 (r_1.2.1,r_1.2.2.1,(10000:Int)) else some false)
            fun (r_3:Bool) =>
            Option.bind
             (bif PE.notM (PE.orM (PE.notM r_2) (PE.notM r_3)) then m34 (r_1.2.2.2,(0:Int),(1000:Int))
             else some false)
             fun (r:Bool) =>
             bif PE.orM (PE.orM (PE.notM r_2) (PE.notM r_3)) (PE.notM r) then some (Sum.inr (Sum.inr s))
             else some (Sum.inl (IntKind.wrap IntKind.i64 (s+(1:Int))))
        else some (Sum.inr (Sum.inl ()))) (fun k hk=>by
    rw [ltI (by show (k:Int)<(fs.length:Int);omega),cond_true,idxM_lt hk,Option.bind_some,m34_eq,Option.bind_some,m42_eq (by omega) (by omega),m34_eq,e0,wrap_in (n:=(k:Int)+1) (by omega) (by omega)]
    unfold fixB
    generalize fs[k]=f
    cases inB f.1 0 (n-1)<;>cases nearB f.2.1 f.2.2.1 10000<;>cases inB f.2.2.2 0 1000<;>rfl) (by rw [geI (by show (fs.length:Int)≤(fs.length:Int);omega),cond_false])
  have L2:=any_loop (xs:=ss) (fun f=>!sgtB n f) (body:=fun (s:Int) =>
           bif ltM s (lenM ss) then
            Option.bind (idxM ss s) fun (r_1:Int×Int×Int×Int×Int) =>
             Option.bind (m34 (r_1.1,(0:Int),IntKind.wrap IntKind.i64 (n-(1:Int))))
              fun (r_2:Bool) =>
              Option.bind
               (bif PE.notM (PE.notM r_2) then
                m34 (r_1.2.1,(0:Int),IntKind.wrap IntKind.i64 (n-(1:Int)))
               else some false)
               fun (r_3:Bool) =>
               Option.bind
                (bif PE.notM (PE.orM (PE.orM (PE.notM r_2) (PE.notM r_3)) (eqM r_1.1 r_1.2.1)) then
                 m42 (r_1.2.2.1,r_1.2.2.2.1,(10000:Int))
                else some false)
                fun (r_4:Bool) =>
                Option.bind
                 (bif
                   PE.notM
                    (PE.orM (PE.orM (PE.orM (PE.notM r_2) (PE.notM r_3)) (eqM r_1.1 r_1.2.1))
                     (PE.notM r_4)) then
                  m34 (r_1.2.2.2.2,(0:Int),(1000:Int))
                 else some false)
                 fun (r:Bool) =>
                 bif
                   PE.orM
                    (PE.orM (PE.orM (PE.orM (PE.notM r_2) (PE.notM r_3)) (eqM r_1.1 r_1.2.1))
                     (PE.notM r_4))
                    (PE.notM r) then
                  some (Sum.inr (Sum.inr s))
                 else some (Sum.inl (IntKind.wrap IntKind.i64 (s+(1:Int))))
           else some (Sum.inr (Sum.inl ()))) (fun k hk=>by
    rw [ltI (by show (k:Int)<(ss.length:Int);omega),cond_true,idxM_lt hk,Option.bind_some,m34_eq,Option.bind_some,m34_eq,m42_eq (by omega) (by omega),m34_eq,e0,wrap_in (n:=(k:Int)+1) (by omega) (by omega)]
    unfold sgtB
    generalize ss[k]=f
    have ee:eqM f.1 f.2.1=decide (f.1=f.2.1):=rfl
    rw [ee]
    cases inB f.1 0 (n-1)<;>cases inB f.2.1 0 (n-1)<;>cases decide (f.1=f.2.1)<;>cases nearB f.2.2.1 f.2.2.2.1 10000<;>cases inB f.2.2.2.2 0 1000<;>rfl) (by rw [geI (by show (ss.length:Int)≤(ss.length:Int);omega),cond_false])
  obtain ⟨ov,hov,hb⟩:=Option.bind_eq_some_iff.1 L1
  have hb:=Option.some.inj hb
  refine bind_of hov ?_
  rw [hb]
  have e9:∀ b:Bool,(Option.bind (bif PE.notM b then (some (ss.any fun f=>!sgtB n f)) else some false) fun (ov_1:Bool)=>some (PE.andM (PE.notM b) (PE.notM ov_1)))=some (!b&&!ss.any fun f=>!sgtB n f):=fun b=>by cases b<;>rfl
  rw [L2,e9]
  rw [← not_any fs (fixB n),← not_any ss (sgtB n)]
  rfl
 ·have e1:PE.orM (PE.orM (PE.notM (inB n 0 8)) (ltM 8 (lenM fs))) (ltM 20 (lenM ss))=!(inB n 0 8&&decide (fs.length≤8)&&decide (ss.length≤20)):=by
   have a1:ltM 8 (lenM fs)=!decide (fs.length≤8):=by
    by_cases h8:fs.length≤8
    ·rw [geI (by show (fs.length:Int)≤8;omega),decide_eq_true h8];rfl
    ·rw [ltI (by show (8:Int)<(fs.length:Int);omega),decide_eq_false h8];rfl
   have a2:ltM 20 (lenM ss)=!decide (ss.length≤20):=by
    by_cases h8:ss.length≤20
    ·rw [geI (by show (ss.length:Int)≤20;omega),decide_eq_true h8];rfl
    ·rw [ltI (by show (20:Int)<(ss.length:Int);omega),decide_eq_false h8];rfl
   rw [a1,a2]
   cases inB n 0 8<;>cases decide (fs.length≤8)<;>cases decide (ss.length≤20)<;>rfl
  have e2:(inB n 0 8&&decide (fs.length≤8)&&decide (ss.length≤20))=false:=by
   rw [Bool.eq_false_iff]
   intro hh
   simp only [Bool.and_eq_true,decide_eq_true_eq] at hh
   exact h ⟨hh.1.1,hh.1.2,hh.2⟩
  rw [e1,e2]
  rfl
end Go.Proofs.YthdfmkpebafpoaaGreatDoor
namespace Go.Proofs.YthdfmkpebafpoaaGreatDoor
open Go Go.Abs Go.PE
abbrev Obs:=Int×Int×Int×Int
def two (o:Obs):List (Int×Int×Int):=[(o.1,o.2.1,o.2.2.1+o.2.2.2),(o.2.1,o.1,o.2.2.2-o.2.2.1)]
def bds (os:List Obs):List (Int×Int×Int):=os.flatMap two
def fOb (d:Fix→Int) (n:Int) (f:Fix):Obs:=(n,f.1,d f,f.2.2.2)
def sOb (d:Sgt→Int) (s:Sgt):Obs:=(s.1,s.2.1,d s,s.2.2.2.2)
def obs (d1:Fix→Int) (d2:Sgt→Int) (c:Net):List Obs:=c.2.1.map (fOb d1 c.1)++c.2.2.map (sOb d2)
def fX (f:Fix):Int:=f.2.1
def fY (f:Fix):Int:=f.2.2.1
def sX (s:Sgt):Int:=s.2.2.1
def sY (s:Sgt):Int:=s.2.2.2.1
def obX (c:Net):List Obs:=obs fX sX c
def obY (c:Net):List Obs:=obs fY sY c
def axX (c:Net):Sys:=(c.1+1,bds (obX c))
def axY (c:Net):Sys:=(c.1+1,bds (obY c))
theorem bds_len (os:List Obs):(bds os).length=2*os.length:=by
 induction os with
 | nil=>rfl
 | cons o r ih =>
  show (two o++bds r).length=_
  rw [List.length_append,ih]
  simp [two];omega
theorem mem_bds {os:List Obs} {a b m:Int}:(a,b,m)∈bds os↔∃ o∈os,(a=o.1∧b=o.2.1∧m=o.2.2.1+o.2.2.2)∨(a=o.2.1∧b=o.1∧m=o.2.2.2-o.2.2.1):=by
 unfold bds
 rw [List.mem_flatMap]
 constructor
 ·rintro ⟨o,ho,h⟩
  refine ⟨o,ho,?_⟩
  unfold two at h
  rcases List.mem_cons.1 h with h | h
  ·injection h with h1 h2
   injection h2 with h2 h3
   exact .inl ⟨h1,h2,h3⟩
  ·rcases List.mem_cons.1 h with h | h
   ·injection h with h1 h2
    injection h2 with h2 h3
    exact .inr ⟨h1,h2,h3⟩
   ·cases h
 ·rintro ⟨o,ho,⟨rfl,rfl,rfl⟩ | ⟨rfl,rfl,rfl⟩⟩
  ·exact ⟨o,ho,List.mem_cons_self ..⟩
  ·exact ⟨o,ho,List.mem_cons_of_mem _ (List.mem_cons_self ..)⟩
structure NOK (c:Net):Prop where
 n0:0≤c.1
 n8:c.1≤8
 fl:c.2.1.length≤8
 sl:c.2.2.length≤20
 fx:∀ f∈c.2.1,0≤f.1∧f.1<c.1∧-10000≤f.2.1∧f.2.1≤10000∧-10000≤f.2.2.1∧f.2.2.1≤10000∧0≤f.2.2.2∧f.2.2.2≤1000
 sg:∀ s∈c.2.2,0≤s.1∧s.1<c.1∧0≤s.2.1∧s.2.1<c.1∧s.1≠s.2.1∧-10000≤s.2.2.1∧s.2.2.1≤10000∧-10000≤s.2.2.2.1∧s.2.2.2.1≤10000∧0≤s.2.2.2.2∧s.2.2.2.2≤1000
theorem fixB_iff {n:Int} {f:Fix}:fixB n f=true↔0≤f.1∧f.1<n∧-10000≤f.2.1∧f.2.1≤10000∧-10000≤f.2.2.1∧f.2.2.1≤10000∧0≤f.2.2.2∧f.2.2.2≤1000:=by
 unfold fixB nearB
 simp only [Bool.and_eq_true,inB_iff]
 constructor
 ·rintro ⟨⟨⟨h1,h2⟩,⟨h3,h4⟩,h5,h6⟩,h7,h8⟩
  exact ⟨h1,by omega,h3,h4,h5,h6,h7,h8⟩
 ·rintro ⟨h1,h2,h3,h4,h5,h6,h7,h8⟩
  exact ⟨⟨⟨h1,by omega⟩,⟨h3,h4⟩,h5,h6⟩,h7,h8⟩
theorem sgtB_iff {n:Int} {s:Sgt}:sgtB n s=true↔0≤s.1∧s.1<n∧0≤s.2.1∧s.2.1<n∧s.1≠s.2.1∧-10000≤s.2.2.1∧s.2.2.1≤10000∧-10000≤s.2.2.2.1∧s.2.2.2.1≤10000∧0≤s.2.2.2.2∧s.2.2.2.2≤1000:=by
 unfold sgtB nearB
 simp only [Bool.and_eq_true,inB_iff,Bool.not_eq_true',decide_eq_false_iff_not]
 constructor
 ·rintro ⟨⟨⟨⟨⟨h1,h2⟩,h3,h4⟩,h5⟩,⟨h6,h7⟩,h8,h9⟩,h10,h11⟩
  exact ⟨h1,by omega,h3,by omega,h5,h6,h7,h8,h9,h10,h11⟩
 ·rintro ⟨h1,h2,h3,h4,h5,h6,h7,h8,h9,h10,h11⟩
  exact ⟨⟨⟨⟨⟨h1,by omega⟩,h3,by omega⟩,h5⟩,⟨h6,h7⟩,h8,h9⟩,h10,h11⟩
theorem nval_iff {c:Net}:nval c=true↔NOK c:=by
 unfold nval
 simp only [Bool.and_eq_true,inB_iff,decide_eq_true_eq,List.all_eq_true,fixB_iff,sgtB_iff]
 constructor
 ·rintro ⟨⟨⟨⟨h1,h2⟩,h3⟩,h4⟩,h5,h6⟩
  exact ⟨h1,h2,h3,h4,h5,h6⟩
 ·rintro ⟨h1,h2,h3,h4,h5,h6⟩
  exact ⟨⟨⟨⟨h1,h2⟩,h3⟩,h4⟩,h5,h6⟩
def dOk (d1:Fix→Int) (d2:Sgt→Int) (c:Net):Prop:=(∀ f∈c.2.1,-10000≤d1 f∧d1 f≤10000)∧∀ s∈c.2.2,-10000≤d2 s∧d2 s≤10000
theorem NOK.dx {c:Net} (h:NOK c):dOk fX sX c:=⟨fun f hf=>by have:=h.fx f hf;unfold fX;omega,fun s hs=>by have:=h.sg s hs;unfold sX;omega⟩
theorem NOK.dy {c:Net} (h:NOK c):dOk fY sY c:=⟨fun f hf=>by have:=h.fx f hf;unfold fY;omega,fun s hs=>by have:=h.sg s hs;unfold sY;omega⟩
theorem obs_len (d1:Fix→Int) (d2:Sgt→Int) (c:Net):(obs d1 d2 c).length=c.2.1.length+c.2.2.length:=by simp [obs]
theorem obs_mem {c:Net} (h:NOK c) {d1:Fix→Int} {d2:Sgt→Int} (hd:dOk d1 d2 c) {o:Obs} (ho:o∈obs d1 d2 c):0≤o.1∧o.1≤c.1∧0≤o.2.1∧o.2.1<c.1∧o.1≠o.2.1∧-10000≤o.2.2.1∧o.2.2.1≤10000∧0≤o.2.2.2∧o.2.2.2≤1000:=by
 rcases List.mem_append.1 ho with ho | ho
 ·obtain ⟨f,hf,rfl⟩:=List.mem_map.1 ho
  have h1:=h.fx f hf
  have h2:=hd.1 f hf
  have h0:=h.n0
  unfold fOb
  dsimp only
  omega
 ·obtain ⟨s,hs,rfl⟩:=List.mem_map.1 ho
  have h1:=h.sg s hs
  have h2:=hd.2 s hs
  unfold sOb
  dsimp only
  omega
theorem ax_sys {c:Net} (h:NOK c) {d1:Fix→Int} {d2:Sgt→Int} (hd:dOk d1 d2 c):sys (c.1+1,bds (obs d1 d2 c))=true:=by
 unfold sys
 rw [Bool.and_eq_true]
 have h0:=h.n0
 have h8:=h.n8
 have hf:=h.fl
 have hs:=h.sl
 refine ⟨decide_eq_true ⟨by show 0≤c.1+1;omega,by show c.1+1≤16;omega,by show (bds _).length≤60;rw [bds_len,obs_len];omega⟩,List.all_eq_true.2 fun b hb=>?_⟩
 obtain ⟨a,b',m⟩:=b
 obtain ⟨o,ho,hh⟩:=mem_bds.1 hb
 have hm:=obs_mem h hd ho
 unfold bnd
 apply decide_eq_true
 dsimp only
 rcases hh with ⟨rfl,rfl,rfl⟩ | ⟨rfl,rfl,rfl⟩<;>omega
theorem sysX {c:Net} (h:NOK c):sys (axX c)=true:=ax_sys h h.dx
theorem sysY {c:Net} (h:NOK c):sys (axY c)=true:=ax_sys h h.dy
theorem axX_n {c:Net} (h:NOK c):(axX c).1.toNat=c.1.toNat+1:=by
 have h0:=h.n0
 show (c.1+1).toNat=_
 omega
theorem axY_n {c:Net} (h:NOK c):(axY c).1.toNat=c.1.toNat+1:=by
 have h0:=h.n0
 show (c.1+1).toNat=_
 omega
end Go.Proofs.YthdfmkpebafpoaaGreatDoor
namespace Go.Proofs.YthdfmkpebafpoaaGreatDoor
open Go Go.Abs Go.PE
abbrev Bx:=Int×Int×Int×Int
theorem wk_map {bs bs':List (Int×Int×Int)} (h:∀ a b:Nat,∀ m:Int,((a:Int),(b:Int),m)∈bs→∃ m',((a:Int),(b:Int),m')∈bs') {i j:Nat} {w:Int} (hw:Wk bs i j w):∃ w',Wk bs' i j w':=by
 induction hw with
 | nil=>exact ⟨0,.nil _⟩
 | snoc _ hm ih =>
  obtain ⟨w',h1⟩:=ih
  obtain ⟨m',h2⟩:=h _ _ _ hm
  exact ⟨_,h1.snoc h2⟩
theorem wk_rev {bs bs':List (Int×Int×Int)} (h:∀ a b:Nat,∀ m:Int,((a:Int),(b:Int),m)∈bs→∃ m',((b:Int),(a:Int),m')∈bs') {i j:Nat} {w:Int} (hw:Wk bs i j w):∃ w',Wk bs' j i w':=by
 induction hw with
 | nil=>exact ⟨0,.nil _⟩
 | snoc _ hm ih =>
  obtain ⟨w',h1⟩:=ih
  obtain ⟨m',h2⟩:=h _ _ _ hm
  exact ⟨_,.cons h2 h1⟩
theorem obs_other {d1 d1':Fix→Int} {d2 d2':Sgt→Int} {c:Net} {o:Obs} (h:o∈obs d1 d2 c):∃ o'∈obs d1' d2' c,o'.1=o.1∧o'.2.1=o.2.1∧o'.2.2.2=o.2.2.2:=by
 rcases List.mem_append.1 h with h | h
 ·obtain ⟨f,hf,rfl⟩:=List.mem_map.1 h
  exact ⟨fOb d1' c.1 f,List.mem_append.2 (.inl (List.mem_map.2 ⟨f,hf,rfl⟩)),rfl,rfl,rfl⟩
 ·obtain ⟨f,hf,rfl⟩:=List.mem_map.1 h
  exact ⟨sOb d2' f,List.mem_append.2 (.inr (List.mem_map.2 ⟨f,hf,rfl⟩)),rfl,rfl,rfl⟩
theorem bds_other {d1 d1':Fix→Int} {d2 d2':Sgt→Int} {c:Net} {a b m:Int} (h:(a,b,m)∈bds (obs d1 d2 c)):(∃ m',(a,b,m')∈bds (obs d1' d2' c))∧∃ m',(b,a,m')∈bds (obs d1' d2' c):=by
 obtain ⟨o,ho,hh⟩:=mem_bds.1 h
 obtain ⟨o',ho',e1,e2,_⟩:=obs_other (d1':=d1') (d2':=d2') ho
 rcases hh with ⟨rfl,rfl,rfl⟩ | ⟨rfl,rfl,rfl⟩
 ·exact ⟨⟨_,mem_bds.2 ⟨o',ho',.inl ⟨e1.symm,e2.symm,rfl⟩⟩⟩,⟨_,mem_bds.2 ⟨o',ho',.inr ⟨e2.symm,e1.symm,rfl⟩⟩⟩⟩
 ·exact ⟨⟨_,mem_bds.2 ⟨o',ho',.inr ⟨e2.symm,e1.symm,rfl⟩⟩⟩,⟨_,mem_bds.2 ⟨o',ho',.inl ⟨e1.symm,e2.symm,rfl⟩⟩⟩⟩
def Cn (c:Net) (i j:Nat):Prop:=∃ w,Wk (axX c).2 i j w
theorem Cn.refl (c:Net) (i:Nat):Cn c i i:=⟨0,.nil i⟩
theorem Cn.trans {c:Net} {i j k:Nat} (h:Cn c i j) (h2:Cn c j k):Cn c i k:=by
 obtain ⟨w,h⟩:=h
 obtain ⟨w2,h2⟩:=h2
 exact ⟨_,h.trans h2⟩
theorem Cn.symm {c:Net} {i j:Nat} (h:Cn c i j):Cn c j i:=by
 obtain ⟨w,h⟩:=h
 exact wk_rev (fun a b m hm=>(bds_other hm).2) h
theorem cn_Y {c:Net} {i j:Nat}:Cn c i j↔∃ w,Wk (axY c).2 i j w :=
 ⟨fun ⟨w,h⟩=>wk_map (fun a b m hm=>(bds_other hm).1) h,fun ⟨w,h⟩=>wk_map (fun a b m hm=>(bds_other hm).1) h⟩
def okN (c:Net):Bool:=!ovS (axX c)&&!ovS (axY c)
theorem okN_iff {c:Net}:okN c=true↔ovS (axX c)=false∧ovS (axY c)=false:=by
 unfold okN
 simp
abbrev fX' (c:Net):Tab:=fwS (axX c)
abbrev fY' (c:Net):Tab:=fwS (axY c)
structure Axis (c:Net) (f:Tab) (bs:List (Int×Int×Int)):Prop where
 cn:∀ i j,i≤c.1.toNat→j≤c.1.toNat→(f i j≠1152921504606846976↔Cn c i j)
 bd:∀ i j,i≤c.1.toNat→j≤c.1.toNat→f i j≠1152921504606846976→-100000000000000000≤f i j∧f i j≤100000000000000000
 self:∀ i,i≤c.1.toNat→f i i=0
 tri:∀ i k j,i≤c.1.toNat→k≤c.1.toNat→j≤c.1.toNat→Cn c i k→Cn c k j→f i j≤f i k+f k j
 wk:∀ i j,i≤c.1.toNat→j≤c.1.toNat→Cn c i j→Wk bs i j (f i j)
 le:∀ i j w,i≤c.1.toNat→j≤c.1.toNat→Wk bs i j w→f i j≤w
theorem axis_of {c:Net} {x:Sys} (hs:sys x=true) (ho:ovS x=false) (hn:x.1.toNat=c.1.toNat+1) (hcn:∀ i j,Cn c i j↔∃ w,Wk x.2 i j w):Axis c (fwS x) x.2 where
 cn i j hi hj:=by
  rcases fw_cases hs ho (i:=i) (j:=j) (by omega) (by omega) with ⟨e,h⟩ | ⟨e1,e2,e3,_⟩
  ·rw [hcn]
   exact ⟨fun h'=>absurd e h',fun ⟨w,hw⟩=>absurd hw (h w)⟩
  ·rw [hcn]
   exact ⟨fun _=>⟨_,e3⟩,fun _=>by omega⟩
 bd i j hi hj h:=by
  rcases fw_cases hs ho (i:=i) (j:=j) (by omega) (by omega) with ⟨e,_⟩ | ⟨e1,e2,_,_⟩
  ·exact absurd e h
  ·exact ⟨e1,e2⟩
 self i hi:=fw_self ho (by omega)
 tri i k j hi hk hj h1 h2:=by
  have a:∀ i j,i≤c.1.toNat→j≤c.1.toNat→Cn c i j→fwS x i j<1000000000000000000:=fun i j hi hj h=>by
   obtain ⟨w,hw⟩:=(hcn i j).1 h
   rcases fw_cases hs ho (i:=i) (j:=j) (by omega) (by omega) with ⟨_,e⟩ | ⟨_,e,_⟩
   ·exact absurd hw (e w)
   ·omega
  exact fw_tri' hs ho (by omega) (by omega) (by omega) (a _ _ hi hk h1) (a _ _ hk hj h2)
 wk i j hi hj h:=by
  obtain ⟨w,hw⟩:=(hcn i j).1 h
  rcases fw_cases hs ho (i:=i) (j:=j) (by omega) (by omega) with ⟨_,e⟩ | ⟨_,_,e,_⟩
  ·exact absurd hw (e w)
  ·exact e
 le i j w hi hj hw:=by
  rcases fw_cases hs ho (i:=i) (j:=j) (by omega) (by omega) with ⟨_,e⟩ | ⟨_,_,_,e⟩
  ·exact absurd hw (e w)
  ·exact e w hw
theorem axisX {c:Net} (h:NOK c) (ho:okN c=true):Axis c (fX' c) (axX c).2:=axis_of (sysX h) (okN_iff.1 ho).1 (axX_n h) fun _ _=>Iff.rfl
theorem axisY {c:Net} (h:NOK c) (ho:okN c=true):Axis c (fY' c) (axY c).2:=axis_of (sysY h) (okN_iff.1 ho).2 (axY_n h) fun _ _=>cn_Y
def boxR (c:Net) (i j:Nat):Bx:=(-fX' c j i,fX' c i j,-fY' c j i,fY' c i j)
end Go.Proofs.YthdfmkpebafpoaaGreatDoor
namespace Go.Proofs.YthdfmkpebafpoaaGreatDoor
open Go Go.Abs Go.PE
abbrev NNum:=List (Int×Int)×List Int×List Fix×List Sgt×Int×Int×Int
structure NN (x:NNum):Prop where
 pl:∀ p∈x.1,i64 p.1∧i64 p.2
 ti:∀ v∈x.2.1,i64 v
 fx:∀ f∈x.2.2.1,i64 f.1∧i64 f.2.1∧i64 f.2.2.1∧i64 f.2.2.2
 sg:∀ s∈x.2.2.2.1,i64 s.1∧i64 s.2.1∧i64 s.2.2.1∧i64 s.2.2.2.1∧i64 s.2.2.2.2
 a:i64 x.2.2.2.2.1
 b:i64 x.2.2.2.2.2.1
 c:i64 x.2.2.2.2.2.2
theorem m21_eq {c n:Int} (hc:i64 c) (hn:0<n):m21 (c,n)=some (pk c n):=pk_text hc hn
theorem m8_eq {c n:Int} (hc:i64 c) (hn:0<n):m8 (c,n)=some (pk c n):=pk_text hc hn
theorem idxD {α:Type} {xs:List α} {i:Nat} (h:i<xs.length) (d:α):idxM xs (i:Int)=some (xs.getD i d):=by
 rw [idxM_lt h];simp [List.getD,h]
theorem memD {α:Type} {xs:List α} {i:Nat} (h:i<xs.length) (d:α):xs.getD i d∈xs:=by
 simp [List.getD,h]
def nP (x:NNum):Nat:=min x.1.length 8
def hp (x:NNum) (i:Nat):Int×Int:=(pk (x.1.getD i (0,0)).1 1001-500,pk (x.1.getD i (0,0)).2 1001-500)
def hidL (x:NNum):List (Int×Int):=row (nP x) (hp x)
def HB (h:Nat→Int×Int):Prop:=∀ i,-500≤(h i).1∧(h i).1≤500∧-500≤(h i).2∧(h i).2≤500
theorem hp_bd (x:NNum):HB (hp x):=fun i=>by
 have h1:=pk_lo (c:=(x.1.getD i (0,0)).1) (n:=1001) (by omega)
 have h2:=pk_hi (c:=(x.1.getD i (0,0)).1) (n:=1001) (by omega)
 have h3:=pk_lo (c:=(x.1.getD i (0,0)).2) (n:=1001) (by omega)
 have h4:=pk_hi (c:=(x.1.getD i (0,0)).2) (n:=1001) (by omega)
 unfold hp
 dsimp only
 omega
theorem nP_bd (x:NNum):nP x≤8∧nP x≤x.1.length:=⟨Nat.min_le_right _ _,Nat.min_le_left _ _⟩
theorem m20_eq {x:NNum} (h:NN x):m20 x=some (hidL x):=by
 have hn:=nP_bd x
 unfold m20
 dsimp only
 refine bind_of (x:=hidL x) ?_ rfl
 refine count_loop (fun k=>row k (hp x)) (nP x) (fun k hk=>?_) ?_
 ·have hm:=h.pl _ (memD (show k<x.1.length by omega) (0,0))
  have hb:=hp_bd x k
  unfold hp at hb
  dsimp only at hb
  dsimp only
  rw [ltI (by show (k:Int)<(x.1.length:Int);omega),andT,ltI (by omega),cond_true,idxD (by omega) (0,0),Option.bind_some,m21_eq hm.1 (by omega),Option.bind_some,Option.bind_some,m21_eq hm.2 (by omega),Option.bind_some,wrap_in (n:=_-500) (by omega) (by omega),wrap_in (n:=_-500) (by omega) (by omega)]
  refine bind_of (app_rowOf rfl (by show (k+1)*16≤140737488355328;omega)) ?_
  rw [wrap_in (by omega) (by omega)]
 ·dsimp only
  have e:PE.andM (ltM ((nP x:Nat):Int) (lenM x.1)) (ltM ((nP x:Nat):Int) 8)=false:=by
   by_cases h8:x.1.length≤8
   ·rw [geI (a:=((nP x:Nat):Int)) (b:=lenM x.1) (by show (x.1.length:Int)≤_;unfold nP;omega)];rfl
   ·rw [geI (a:=((nP x:Nat):Int)) (b:=8) (by unfold nP;omega)]
    cases ltM ((nP x:Nat):Int) (lenM x.1)<;>rfl
  rw [e,cond_false]
  rfl
def pN (c:Int) (n:Nat):Nat:=(pk c n).toNat
theorem pN_lt {c:Int} {n:Nat} (hn:0<n):pN c n<n:=by
 have h1:=pk_lo (c:=c) (n:=n) (by omega)
 have h2:=pk_hi (c:=c) (n:=n) (by omega)
 unfold pN
 omega
theorem pN_eq {c:Int} {n:Nat} (hn:0<n):((pN c n:Nat):Int)=pk c n:=by
 have h1:=pk_lo (c:=c) (n:=n) (by omega)
 unfold pN
 omega
def sTo (n:Nat) (s:Sgt):Nat:=(pN s.1 n+1+pN s.2.1 (n-1)) % n
def jit (c:Int) (t:Nat):Int:=pk c (2*t+1)-t
theorem jit_bd {c:Int} {t:Nat}:-(t:Int)≤jit c t∧jit c t≤t:=by
 have h1:=pk_lo (c:=c) (n:=2*t+1) (by omega)
 have h2:=pk_hi (c:=c) (n:=2*t+1) (by omega)
 unfold jit
 omega
def sightOf (n:Nat) (h:Nat→Int×Int) (s:Sgt):Sgt :=
 ((pN s.1 n:Nat),(sTo n s:Nat),(h (sTo n s)).1-(h (pN s.1 n)).1+jit s.2.2.2.1 (pN s.2.2.1 12),(h (sTo n s)).2-(h (pN s.1 n)).2+jit s.2.2.2.2 (pN s.2.2.1 12),(pN s.2.2.1 12:Nat))
theorem m22_eq {n:Nat} {h:Nat→Int×Int} (hn:2≤n) (hn8:n≤8) (hb:HB h) {s:Sgt} (h1:i64 s.1) (h2:i64 s.2.1) (h3:i64 s.2.2.1) (h4:i64 s.2.2.2.1) (h5:i64 s.2.2.2.2):m22 (row n h,s)=some (sightOf n h s):=by
 have hl:lenM (row n h)=(n:Int):=by show ((row n h).length:Int)=_;rw [row_length]
 have p1:=pN_lt (c:=s.1) (n:=n) (by omega)
 have p2:=pN_lt (c:=s.2.1) (n:=n-1) (by omega)
 have p3:=pN_lt (c:=s.2.2.1) (n:=12) (by omega)
 have q1:=pN_eq (c:=s.1) (n:=n) (by omega)
 have q2:=pN_eq (c:=s.2.1) (n:=n-1) (by omega)
 have q3:=pN_eq (c:=s.2.2.1) (n:=12) (by omega)
 have hto:sTo n s<n:=Nat.mod_lt _ (by omega)
 have b1:=hb (sTo n s)
 have b2:=hb (pN s.1 n)
 have j1:=jit_bd (c:=s.2.2.2.1) (t:=pN s.2.2.1 12)
 have j2:=jit_bd (c:=s.2.2.2.2) (t:=pN s.2.2.1 12)
 have e12:((12:Nat):Int)=12:=rfl
 rw [e12] at q3
 unfold m22
 dsimp only
 rw [hl,m21_eq h1 (by omega),Option.bind_some,m21_eq h3 (by omega),Option.bind_some,wrap_in (n:=(n:Int)-1) (by omega) (by omega)]
 have en:((n:Int)-1)=((n-1:Nat):Int):=by omega
 rw [en,m21_eq h2 (by omega),Option.bind_some,← q1,← q2,← q3,wrap_in (n:=((pN s.1 n:Nat):Int)+1) (by omega) (by omega),wrap_in (n:=((pN s.1 n:Nat):Int)+1+((pN s.2.1 (n-1):Nat):Int)) (by omega) (by omega),remM_of (by omega) (by omega),Option.bind_some]
 have et:(((pN s.1 n:Nat):Int)+1+((pN s.2.1 (n-1):Nat):Int)) % (n:Int)=((sTo n s:Nat):Int):=by
  unfold sTo
  rw [Int.natCast_emod]
  rfl
 rw [et,row_idx hto,Option.bind_some,row_idx p1,Option.bind_some]
 have e2:IntKind.wrap IntKind.i64 (IntKind.wrap IntKind.i64 ((2:Int)*((pN s.2.2.1 12:Nat):Int))+1)=2*((pN s.2.2.1 12:Nat):Int)+1:=by
  rw [wrap_in (n:=2*((pN s.2.2.1 12:Nat):Int)) (by omega) (by omega),wrap_in (by omega) (by omega)]
 rw [e2,m21_eq h4 (by omega),Option.bind_some,Option.bind_some,Option.bind_some,m21_eq h5 (by omega),Option.bind_some]
 unfold jit at j1 j2
 generalize hv1:pk s.2.2.2.1 (2*((pN s.2.2.1 12:Nat):Int)+1)=v1 at *
 generalize hv2:pk s.2.2.2.2 (2*((pN s.2.2.1 12:Nat):Int)+1)=v2 at *
 rw [wrap_in (n:=(h (sTo n s)).1-(h (pN s.1 n)).1) (by omega) (by omega),wrap_in (n:=(h (sTo n s)).1-(h (pN s.1 n)).1+v1) (by omega) (by omega),wrap_in (n:=(h (sTo n s)).1-(h (pN s.1 n)).1+v1-((pN s.2.2.1 12:Nat):Int)) (by omega) (by omega)]
 rw [wrap_in (n:=(h (sTo n s)).2-(h (pN s.1 n)).2) (by omega) (by omega),wrap_in (n:=(h (sTo n s)).2-(h (pN s.1 n)).2+v2) (by omega) (by omega),wrap_in (n:=(h (sTo n s)).2-(h (pN s.1 n)).2+v2-((pN s.2.2.1 12:Nat):Int)) (by omega) (by omega)]
 unfold sightOf jit
 rw [hv1,hv2]
 have z1:(h (sTo n s)).1-(h (pN s.1 n)).1+v1-((pN s.2.2.1 12:Nat):Int)=(h (sTo n s)).1-(h (pN s.1 n)).1+(v1-((pN s.2.2.1 12:Nat):Int)):=by omega
 have z2:(h (sTo n s)).2-(h (pN s.1 n)).2+v2-((pN s.2.2.1 12:Nat):Int)=(h (sTo n s)).2-(h (pN s.1 n)).2+(v2-((pN s.2.2.1 12:Nat):Int)):=by omega
 rw [z1,z2]
theorem sight_ne {n:Nat} (hn:2≤n) (s:Sgt):sTo n s≠pN s.1 n:=by
 have p1:=pN_lt (c:=s.1) (n:=n) (by omega)
 have p2:=pN_lt (c:=s.2.1) (n:=n-1) (by omega)
 unfold sTo
 intro h
 by_cases hlt:pN s.1 n+1+pN s.2.1 (n-1)<n
 ·rw [Nat.mod_eq_of_lt hlt] at h;omega
 ·rw [Nat.mod_eq_sub_mod (by omega),Nat.mod_eq_of_lt (by omega)] at h;omega
end Go.Proofs.YthdfmkpebafpoaaGreatDoor
namespace Go.Proofs.YthdfmkpebafpoaaGreatDoor
open Go Go.Abs Go.PE
def fixOf (n:Nat) (h:Nat→Int×Int) (f:Fix):Fix:=((pN f.1 n:Nat),(h (pN f.1 n)).1+jit f.2.2.1 (pN f.2.1 12),(h (pN f.1 n)).2+jit f.2.2.2 (pN f.2.1 12),(pN f.2.1 12:Nat))
def nF (x:NNum):Nat:=if nP x=0 then 0 else min x.2.2.1.length 6
def fxf (x:NNum) (i:Nat):Fix:=fixOf (nP x) (hp x) (x.2.2.1.getD i (0,0,0,0))
def tN (x:NNum):Nat:=min x.2.1.length (nP x-1)
def tieF (x:NNum) (k:Nat):Sgt :=
 ((pN (x.2.1.getD k 0) (k+1):Nat),((k+1:Nat):Int),(hp x (k+1)).1-(hp x (pN (x.2.1.getD k 0) (k+1))).1,(hp x (k+1)).2-(hp x (pN (x.2.1.getD k 0) (k+1))).2,(pN ((x.2.1.getD k 0).tdiv 8) 10:Nat))
def nS (x:NNum):Nat:=if nP x≤1 then 0 else min x.2.2.2.1.length 10
def sgF (x:NNum) (k:Nat):Sgt:=sightOf (nP x) (hp x) (x.2.2.2.1.getD k (0,0,0,0,0))
def base (x:NNum):List Sgt:=row (tN x) (tieF x)++row (nS x) (sgF x)
def mis (x:NNum):Bool:=decide (pk x.2.2.2.2.1 3=2)
def bent (x:NNum) (s:Sgt):Sgt:=if pk x.2.2.2.2.2.2 2=0 then (s.1,s.2.1,s.2.2.1+(pk (x.2.2.2.2.2.2.tdiv 2) 60+1),s.2.2.2) else (s.1,s.2.1,s.2.2.1,s.2.2.2.1-(pk (x.2.2.2.2.2.2.tdiv 2) 60+1),s.2.2.2.2)
def msg (x:NNum):List Sgt:=if mis x=true∧0<(base x).length then (base x).set (pN x.2.2.2.2.2.1 (base x).length) (bent x ((base x).getD (pN x.2.2.2.2.2.1 (base x).length) (0,0,0,0,0))) else base x
def madeN (x:NNum):Net:=((nP x:Int),row (nF x) (fxf x),msg x)
def KF (n:Nat) (h:Nat→Int×Int) (f:Fix):Prop:=0≤f.1∧f.1<n∧-511≤f.2.1∧f.2.1≤511∧-511≤f.2.2.1∧f.2.2.1≤511∧0≤f.2.2.2∧f.2.2.2≤11 ∧
 -f.2.2.2≤(h f.1.toNat).1-f.2.1∧(h f.1.toNat).1-f.2.1≤f.2.2.2∧-f.2.2.2≤(h f.1.toNat).2-f.2.2.1∧(h f.1.toNat).2-f.2.2.1≤f.2.2.2
def KS (n:Nat) (h:Nat→Int×Int) (s:Sgt):Prop:=0≤s.1∧s.1<n∧0≤s.2.1∧s.2.1<n∧s.1≠s.2.1∧-1011≤s.2.2.1∧s.2.2.1≤1011∧-1011≤s.2.2.2.1∧s.2.2.2.1≤1011∧0≤s.2.2.2.2∧s.2.2.2.2≤11 ∧
 -s.2.2.2.2≤(h s.2.1.toNat).1-(h s.1.toNat).1-s.2.2.1∧(h s.2.1.toNat).1-(h s.1.toNat).1-s.2.2.1≤s.2.2.2.2∧-s.2.2.2.2≤(h s.2.1.toNat).2-(h s.1.toNat).2-s.2.2.2.1∧(h s.2.1.toNat).2-(h s.1.toNat).2-s.2.2.2.1≤s.2.2.2.2
theorem fixOf_keeps {n:Nat} {h:Nat→Int×Int} (hn:0<n) (hb:HB h) (f:Fix):KF n h (fixOf n h f):=by
 have p1:=pN_lt (c:=f.1) hn
 have p2:=pN_lt (c:=f.2.1) (n:=12) (by omega)
 have b:=hb (pN f.1 n)
 have j1:=jit_bd (c:=f.2.2.1) (t:=pN f.2.1 12)
 have j2:=jit_bd (c:=f.2.2.2) (t:=pN f.2.1 12)
 unfold KF fixOf
 dsimp only
 rw [Int.toNat_natCast]
 omega
theorem sightOf_keeps {n:Nat} {h:Nat→Int×Int} (hn:2≤n) (hb:HB h) (s:Sgt):KS n h (sightOf n h s):=by
 have p1:=pN_lt (c:=s.1) (n:=n) (by omega)
 have p3:=pN_lt (c:=s.2.2.1) (n:=12) (by omega)
 have hto:sTo n s<n:=Nat.mod_lt _ (by omega)
 have hne:=sight_ne hn s
 have b1:=hb (pN s.1 n)
 have b2:=hb (sTo n s)
 have j1:=jit_bd (c:=s.2.2.2.1) (t:=pN s.2.2.1 12)
 have j2:=jit_bd (c:=s.2.2.2.2) (t:=pN s.2.2.1 12)
 unfold KS sightOf
 dsimp only
 rw [Int.toNat_natCast,Int.toNat_natCast]
 omega
theorem tie_keeps {x:NNum} {k:Nat} (hk:k<tN x):KS (nP x) (hp x) (tieF x k):=by
 have hk2:k+1<nP x:=by unfold tN at hk;omega
 have p1:=pN_lt (c:=x.2.1.getD k 0) (n:=k+1) (by omega)
 have p2:=pN_lt (c:=(x.2.1.getD k 0).tdiv 8) (n:=10) (by omega)
 have b1:=hp_bd x (k+1)
 have b2:=hp_bd x (pN (x.2.1.getD k 0) (k+1))
 unfold KS tieF
 dsimp only
 rw [Int.toNat_natCast,Int.toNat_natCast]
 omega
theorem fix_keeps {x:NNum} {f:Fix} (hf:f∈row (nF x) (fxf x)):KF (nP x) (hp x) f:=by
 obtain ⟨i,hi,rfl⟩:=row_mem hf
 refine fixOf_keeps ?_ (hp_bd x) _
 unfold nF at hi
 split at hi<;>omega
theorem base_keeps {x:NNum} {s:Sgt} (hs:s∈base x):KS (nP x) (hp x) s:=by
 rcases List.mem_append.1 hs with hs | hs
 ·obtain ⟨i,hi,rfl⟩:=row_mem hs
  exact tie_keeps hi
 ·obtain ⟨i,hi,rfl⟩:=row_mem hs
  refine sightOf_keeps ?_ (hp_bd x) _
  unfold nS at hi
  split at hi<;>omega
theorem base_len (x:NNum):(base x).length≤17:=by
 unfold base
 rw [List.length_append,row_length,row_length]
 have:=(nP_bd x).1
 unfold tN nS
 split<;>omega
theorem msg_len (x:NNum):(msg x).length=(base x).length:=by
 unfold msg
 split
 ·rw [List.length_set]
 ·rfl
theorem msg_mem {x:NNum} {s:Sgt} (hs:s∈msg x):s∈base x∨∃ s'∈base x,s=bent x s':=by
 unfold msg at hs
 split at hs
 ·rename_i h
  rcases List.mem_or_eq_of_mem_set hs with h1 | h1
  ·exact .inl h1
  ·exact .inr ⟨_,memD (pN_lt h.2) _,h1⟩
 ·exact .inl hs
theorem made_ok (x:NNum):NOK (madeN x) where
 n0:=by show (0:Int)≤(nP x:Int);omega
 n8:=by have:=(nP_bd x).1;show (nP x:Int)≤8;omega
 fl:=by
  show (row (nF x) (fxf x)).length≤8
  rw [row_length]
  unfold nF
  split<;>omega
 sl:=by
  show (msg x).length≤20
  have:=base_len x
  rw [msg_len];omega
 fx f hf:=by
  have:=fix_keeps hf
  unfold KF at this
  show 0≤f.1∧f.1<(nP x:Int)∧_
  omega
 sg s hs:=by
  show 0≤s.1∧s.1<(nP x:Int)∧0≤s.2.1∧s.2.1<(nP x:Int)∧_
  have hd1:=pk_lo (c:=x.2.2.2.2.2.2.tdiv 2) (n:=60) (by omega)
  have hd2:=pk_hi (c:=x.2.2.2.2.2.2.tdiv 2) (n:=60) (by omega)
  rcases msg_mem hs with h | ⟨s',h,rfl⟩
  ·have:=base_keeps h
   unfold KS at this
   omega
  ·have:=base_keeps h
   unfold KS at this
   unfold bent
   split
   ·dsimp only;omega
   ·dsimp only;omega
theorem m23_eq {x:NNum} (h:NN x):m23 x=some (mis x):=by
 unfold m23
 rw [m21_eq h.a (by omega)]
 rfl
theorem lenR {α:Type} (m:Nat) (g:Nat→α):lenM (row m g)=(m:Int):=by show ((row m g).length:Int)=_;rw [row_length]
theorem wrap_2t {t:Nat} (ht:t<12):IntKind.wrap IntKind.i64 (IntKind.wrap IntKind.i64 ((2:Int)*((t:Nat):Int))+1)=2*((t:Nat):Int)+1:=by
 rw [wrap_in (n:=2*((t:Nat):Int)) (by omega) (by omega),wrap_in (by omega) (by omega)]
theorem min_end (a b:Nat) (bs:Int) (h:bs=(b:Int)) {xs:Int} (hx:xs=(a:Int)):PE.andM (ltM ((min a b:Nat):Int) xs) (ltM ((min a b:Nat):Int) bs)=false:=by
 subst h;subst hx
 by_cases h1:a≤b
 ·rw [geI (a:=((min a b:Nat):Int)) (b:=(a:Int)) (by omega)];rfl
 ·rw [geI (a:=((min a b:Nat):Int)) (b:=(b:Int)) (by omega)]
  cases ltM ((min a b:Nat):Int) (a:Int)<;>rfl
theorem andF2 (b:Bool):PE.andM b false=false:=by cases b<;>rfl
theorem setM_D {α:Type} {xs:List α} {i:Nat} (h:i<xs.length) (d:α) {f:α→Option α} {y:α} (hy:f (xs.getD i d)=some y):setM xs (i:Int) f=some (xs.set i y):=by
 have e:xs.getD i d=xs[i]:=by simp [List.getD,h]
 rw [e] at hy
 exact setM_of (by omega) (by omega) hy
theorem m5_eq {x:NNum} (h:NN x):m5 x=some (madeN x):=by
 have hn:=nP_bd x
 unfold m5
 dsimp only
 refine bind_of (m20_eq h) ?_
 have hl:lenM (hidL x)=(nP x:Int):=lenR _ _
 rw [hl]
 refine bind_of (x:=((nP x:Int),row (nF x) (fxf x))) ?_ ?_
 ·refine count_loop (fun k=>((nP x:Int),row k (fxf x))) (nF x) (fun k hk=>?_) ?_
  ·have hk1:k<x.2.2.1.length∧k<6∧0<nP x:=by unfold nF at hk;split at hk<;>omega
   obtain ⟨k1,k2,k3⟩:=hk1
   have hm:=h.fx _ (memD k1 (0,0,0,0))
   have ef:fxf x k=fixOf (nP x) (hp x) (x.2.2.1.getD k (0,0,0,0)):=rfl
   dsimp only
   rw [ltI (by show (k:Int)<(x.2.2.1.length:Int);omega),andT,ltI (by omega),andT,ltI (by omega),cond_true,idxD k1 (0,0,0,0),Option.bind_some]
   generalize x.2.2.1.getD k (0,0,0,0)=f at *
   obtain ⟨m1,m2,m3,m4⟩:=hm
   have p1:=pN_lt (c:=f.1) k3
   have q1:=pN_eq (c:=f.1) k3
   have p2:=pN_lt (c:=f.2.1) (n:=12) (by omega)
   have q2:((pN f.2.1 12:Nat):Int)=pk f.2.1 12:=pN_eq (c:=f.2.1) (n:=12) (by omega)
   have b:=hp_bd x (pN f.1 (nP x))
   have j1:=jit_bd (c:=f.2.2.1) (t:=pN f.2.1 12)
   have j2:=jit_bd (c:=f.2.2.2) (t:=pN f.2.1 12)
   rw [m21_eq m1 (by omega),Option.bind_some,Option.bind_some,m21_eq m2 (by omega),Option.bind_some,← q1,← q2]
   have er:idxM (hidL x) ((pN f.1 (nP x):Nat):Int)=some (hp x (pN f.1 (nP x))):=row_idx p1
   rw [er,Option.bind_some,Option.bind_some,wrap_2t p2,m21_eq m3 (by omega),Option.bind_some,Option.bind_some,Option.bind_some,m21_eq m4 (by omega),Option.bind_some]
   refine bind_of (app_rowOf (g:=fxf x) ?_ (by show (k+1)*32≤140737488355328;omega)) ?_
   ·rw [ef]
    unfold fixOf
    unfold jit at *
    generalize pk f.2.2.1 (2*((pN f.2.1 12:Nat):Int)+1)=v1 at *
    generalize pk f.2.2.2 (2*((pN f.2.1 12:Nat):Int)+1)=v2 at *
    rw [wrap_in (n:=(hp x (pN f.1 (nP x))).1+v1) (by omega) (by omega),wrap_in (n:=(hp x (pN f.1 (nP x))).1+v1-((pN f.2.1 12:Nat):Int)) (by omega) (by omega),wrap_in (n:=(hp x (pN f.1 (nP x))).2+v2) (by omega) (by omega),wrap_in (n:=(hp x (pN f.1 (nP x))).2+v2-((pN f.2.1 12:Nat):Int)) (by omega) (by omega)]
    have z1:(hp x (pN f.1 (nP x))).1+v1-((pN f.2.1 12:Nat):Int)=(hp x (pN f.1 (nP x))).1+(v1-((pN f.2.1 12:Nat):Int)):=by omega
    have z2:(hp x (pN f.1 (nP x))).2+v2-((pN f.2.1 12:Nat):Int)=(hp x (pN f.1 (nP x))).2+(v2-((pN f.2.1 12:Nat):Int)):=by omega
    rw [z1,z2]
   ·rw [wrap_in (by omega) (by omega)]
  ·dsimp only
   have e:PE.andM (PE.andM (ltM ((nF x:Nat):Int) (lenM x.2.2.1)) (ltM ((nF x:Nat):Int) 6)) (ltM 0 ((nP x:Nat):Int))=false:=by
    unfold nF
    by_cases h0:nP x=0
    ·rw [if_pos h0,h0,geI (a:=0) (b:=((0:Nat):Int)) (by omega)]
     exact andF2 _
    ·rw [if_neg h0,min_end x.2.2.1.length 6 6 rfl (xs:=lenM x.2.2.1) rfl];rfl
   rw [e,cond_false]
 refine bind_of (x:=((nP x:Int),row (tN x) (tieF x))) ?_ ?_
 ·refine count_loop (fun k=>((nP x:Int),row k (tieF x))) (tN x) (fun k hk=>?_) ?_
  ·have k1:k<x.2.1.length:=by unfold tN at hk;omega
   have k2:k+1<nP x:=by unfold tN at hk;omega
   have hm:=h.ti _ (memD k1 0)
   have ef:tieF x k=(((pN (x.2.1.getD k 0) (k+1):Nat):Int),((k+1:Nat):Int),(hp x (k+1)).1-(hp x (pN (x.2.1.getD k 0) (k+1))).1,(hp x (k+1)).2-(hp x (pN (x.2.1.getD k 0) (k+1))).2,((pN ((x.2.1.getD k 0).tdiv 8) 10:Nat):Int)):=rfl
   have ek:IntKind.wrap IntKind.i64 ((k:Int)+1)=((k+1:Nat):Int):=by rw [wrap_in (by omega) (by omega)];rfl
   dsimp only
   rw [ltI (by show (k:Int)<(x.2.1.length:Int);omega),andT,ek,ltI (by omega),cond_true,idxD k1 0,Option.bind_some]
   generalize x.2.1.getD k 0=v at *
   have p1:=pN_lt (c:=v) (n:=k+1) (by omega)
   have q1:((pN v (k+1):Nat):Int)=pk v ((k+1:Nat):Int):=pN_eq (c:=v) (n:=k+1) (by omega)
   have q2:((pN (v.tdiv 8) 10:Nat):Int)=pk (v.tdiv 8) 10:=pN_eq (c:=v.tdiv 8) (n:=10) (by omega)
   have b1:=hp_bd x (k+1)
   have b2:=hp_bd x (pN v (k+1))
   have er1:idxM (hidL x) ((k+1:Nat):Int)=some (hp x (k+1)):=row_idx k2
   have er2:idxM (hidL x) ((pN v (k+1):Nat):Int)=some (hp x (pN v (k+1))):=row_idx (by omega)
   rw [m21_eq hm (by omega),Option.bind_some,← q1,er1,Option.bind_some,er2,Option.bind_some,Option.bind_some,Option.bind_some,Option.bind_some,divM_pos (by omega),wrap_tdiv hm (by omega),Option.bind_some,m21_eq (tdiv_ok hm (by omega)) (by omega),Option.bind_some,← q2,wrap_in (n:=(hp x (k+1)).1-(hp x (pN v (k+1))).1) (by omega) (by omega),wrap_in (n:=(hp x (k+1)).2-(hp x (pN v (k+1))).2) (by omega) (by omega)]
   refine bind_of (app_rowOf (g:=tieF x) ef.symm (by show (k+1)*40≤140737488355328;omega)) rfl
  ·dsimp only
   have e:PE.andM (ltM ((tN x:Nat):Int) (lenM x.2.1)) (ltM (IntKind.wrap IntKind.i64 (((tN x:Nat):Int)+1)) ((nP x:Nat):Int))=false:=by
    have h9:tN x≤7:=by unfold tN;omega
    rw [wrap_in (n:=((tN x:Nat):Int)+1) (by omega) (by omega)]
    by_cases h1:x.2.1.length≤tN x
    ·rw [geI (a:=((tN x:Nat):Int)) (b:=lenM x.2.1) (by show (x.2.1.length:Int)≤_;omega)];rfl
    ·rw [geI (a:=((tN x:Nat):Int)+1) (b:=((nP x:Nat):Int)) (by unfold tN at h1 ⊢;omega)]
     cases ltM ((tN x:Nat):Int) (lenM x.2.1)<;>rfl
   rw [e,cond_false]
 refine bind_of (x:=((nP x:Int),base x)) ?_ ?_
 ·have eb:base x=row (tN x) (tieF x)++row (nS x) (sgF x):=rfl
  have e0:row (tN x) (tieF x)=row (tN x) (tieF x)++row 0 (sgF x):=by rw [row_zero,List.append_nil]
  have hb17:=base_len x
  have L:=count_loop (body:=fun (s:Int×Int×List (Int×Int×Int×Int×Int)) =>
        bif PE.andM (PE.andM (ltM s.1 (lenM x.2.2.2.1)) (ltM s.1 (10:Int))) (ltM (1:Int) ((nP x:Nat):Int)) then
         Option.bind (idxM x.2.2.2.1 s.1) fun (r_1:Int×Int×Int×Int×Int) =>
          Option.bind (m22 (hidL x,r_1.1,r_1.2.1,r_1.2.2.1,r_1.2.2.2.1,r_1.2.2.2.2))
           fun (r_2:Int×Int×Int×Int×Int) =>
           Option.bind (appM (nat_lit 40) s.2.2 [(r_2.1,r_2.2.1,r_2.2.2.1,r_2.2.2.2.1,r_2.2.2.2.2)])
            fun (r:List (Int×Int×Int×Int×Int)) =>
            some (Sum.inl (IntKind.wrap IntKind.i64 (s.1+(1:Int)),s.2.1,r))
        else some (Sum.inr (s.2.1,s.2.2))) (fun k=>((nP x:Int),row (tN x) (tieF x)++row k (sgF x))) (nS x) (r:=((nP x:Int),row (tN x) (tieF x)++row (nS x) (sgF x))) (fun k hk=>by
   have hk1:k<x.2.2.2.1.length∧k<10∧1<nP x:=by unfold nS at hk;split at hk<;>omega
   obtain ⟨k1,k2,k3⟩:=hk1
   obtain ⟨m1,m2,m3,m4,m5⟩:=h.sg _ (memD k1 (0,0,0,0,0))
   have hs:=m22_eq (n:=nP x) (h:=hp x) (by omega) hn.1 (hp_bd x) m1 m2 m3 m4 m5
   dsimp only
   rw [ltI (by show (k:Int)<(x.2.2.2.1.length:Int);omega),andT,ltI (by omega),andT,ltI (by omega),cond_true,idxD k1 (0,0,0,0,0),Option.bind_some]
   refine bind_of hs ?_
   refine bind_of (appM_of (by rw [List.length_append,row_length,row_length];unfold tN;simp;omega)) ?_
   rw [wrap_in (by omega) (by omega),row_succ,List.append_assoc]
   rfl) (by
   dsimp only
   have e:PE.andM (PE.andM (ltM ((nS x:Nat):Int) (lenM x.2.2.2.1)) (ltM ((nS x:Nat):Int) 10)) (ltM 1 ((nP x:Nat):Int))=false:=by
    unfold nS
    by_cases h0:nP x≤1
    ·rw [if_pos h0,geI (a:=1) (b:=((nP x:Nat):Int)) (by omega)]
     exact andF2 _
    ·rw [if_neg h0,min_end x.2.2.2.1.length 10 10 rfl (xs:=lenM x.2.2.2.1) rfl];rfl
   rw [e,cond_false])
  rw [← e0] at L
  exact L
 dsimp only
 refine bind_of (x:=msg x) ?_ rfl
 refine bind_of (m23_eq h) ?_
 have hlb:lenM (base x)=((base x).length:Int):=rfl
 have hb17:=base_len x
 rw [hlb]
 unfold msg
 by_cases h0:mis x=true∧0<(base x).length
 ·obtain ⟨hm,hl0⟩:=h0
  have p1:=pN_lt (c:=x.2.2.2.2.2.1) hl0
  have q1:=pN_eq (c:=x.2.2.2.2.2.1) hl0
  have hd1:=pk_lo (c:=x.2.2.2.2.2.2.tdiv 2) (n:=60) (by omega)
  have hd2:=pk_hi (c:=x.2.2.2.2.2.2.tdiv 2) (n:=60) (by omega)
  have hk:=base_keeps (memD p1 (0,0,0,0,0))
  unfold KS at hk
  rw [if_pos ⟨hm,hl0⟩,hm,andT,ltI (by omega),cond_true,m21_eq h.b (by omega),Option.bind_some,divM_pos (by omega),wrap_tdiv h.c (by omega),Option.bind_some,m21_eq (tdiv_ok h.c (by omega)) (by omega),Option.bind_some,m21_eq h.c (by omega),Option.bind_some,← q1]
  rw [wrap_in (n:=pk (x.2.2.2.2.2.2.tdiv 2) 60+1) (by omega) (by omega)]
  unfold bent
  by_cases h2:pk x.2.2.2.2.2.2 2=0
  ·rw [eqI h2,cond_true,if_pos h2,chkM_of (by omega) (by omega),Option.bind_some,idxD p1 (0,0,0,0,0),Option.bind_some,Option.bind_some,Option.bind_some]
   refine bind_of (setM_D p1 (0,0,0,0,0) rfl) ?_
   rw [wrap_in (n:=_+(_+1)) (by omega) (by omega)]
  ·rw [neI h2,cond_false,if_neg h2,chkM_of (by omega) (by omega),Option.bind_some,idxD p1 (0,0,0,0,0),Option.bind_some,Option.bind_some,Option.bind_some]
   refine bind_of (setM_D p1 (0,0,0,0,0) rfl) ?_
   rw [wrap_in (n:=_-(_+1)) (by omega) (by omega)]
 ·rw [if_neg h0]
  have e:PE.andM (mis x) (ltM 0 ((base x).length:Int))=false:=by
   cases hm:mis x with
   | false=>rfl
   | true =>
    rw [geI (by have:¬ 0<(base x).length:=fun h=>h0 ⟨hm,h⟩;omega)]
    rfl
  rw [e,cond_false]
end Go.Proofs.YthdfmkpebafpoaaGreatDoor
namespace Go.Proofs.YthdfmkpebafpoaaGreatDoor
open Go Go.Abs Go.PE
end Go.Proofs.YthdfmkpebafpoaaGreatDoor
namespace Go.Proofs.YthdfmkpebafpoaaGreatDoor
open Go Go.Abs Go.PE
end Go.Proofs.YthdfmkpebafpoaaGreatDoor
namespace Go.Proofs.YthdfmkpebafpoaaGreatDoor
open Go Go.Abs Go.PE
def stepT (t:Nat→Bool) (s:Sgt):Nat→Bool:=fun i=>t i||((t s.1.toNat||t s.2.1.toNat)&&decide (i=s.1.toNat∨i=s.2.1.toNat))
def sweep (ss:List Sgt) (t:Nat→Bool):Nat→Bool:=ss.foldl stepT t
def t0 (fs:List Fix):Nat→Bool:=fun i=>fs.any fun f=>decide (i=f.1.toNat)
def tdR (c:Net):Nat→Nat→Bool
 | 0=>t0 c.2.1
 | k+1=>sweep c.2.2 (tdR c k)
def td (c:Net):Nat→Bool:=tdR c c.1.toNat
theorem set_rowA {α:Type} {m j:Nat} {g:Nat→α} {y:α} (hj:j<m):setM (row m g) (j:Int) (fun _=>some y)=some (row m fun a=>if a=j then y else g a):=by
 unfold setM
 rw [row_idx hj]
 show some ((row m g).set ((j:Int)).toNat y)=_
 rw [Int.toNat_natCast,row_set hj]
theorem m27_eq {c:Net} (h:NOK c):m27 c=some (row c.1.toNat (td c)):=by
 have h0:=h.n0
 have h8:=h.n8
 have hfl:=h.fl
 have hsl:=h.sl
 have hN:c.1=((c.1.toNat:Nat):Int):=by omega
 have hlR:∀ g:Nat→Bool,lenM (row c.1.toNat g)=c.1:=fun g=>by rw [lenR];omega
 unfold m27
 refine bind_of (x:=row c.1.toNat fun _=>false) ?_ ?_
 ·rw [mkM_of (by omega) (by omega) (by show c.1*1≤140737488355328;omega),replicate_row]
 refine bind_of (x:=row c.1.toNat (t0 c.2.1)) ?_ ?_
 ·have e0:row c.1.toNat (fun _=>false)=row c.1.toNat (t0 (c.2.1.take 0)):=row_congr fun i _=>by simp [t0]
  rw [e0]
  have L:=count_loop (body:=fun (s:Int×List Bool) =>
      bif ltM s.1 (lenM c.2.1) then
       Option.bind (idxM c.2.1 s.1) fun (r_1:Int×Int×Int×Int) =>
        Option.bind (chkM r_1.1 (lenM s.2)) fun (r_2:Unit) =>
         Option.bind (setM s.2 r_1.1 fun (x:Bool)=>some true) fun (r:List Bool) =>
          some (Sum.inl (IntKind.wrap IntKind.i64 (s.1+(1:Int)),r))
      else some (Sum.inr s.2)) (fun k=>row c.1.toNat (t0 (c.2.1.take k))) c.2.1.length (r:=row c.1.toNat (t0 (c.2.1.take c.2.1.length))) (fun k hk=>by
   have hm:=h.fx _ (List.getElem_mem hk)
   dsimp only
   rw [ltI (by show (k:Int)<(c.2.1.length:Int);omega),cond_true,idxM_lt hk,Option.bind_some,hlR,chkM_of (by omega) (by omega),Option.bind_some]
   obtain ⟨p,hp⟩:=Int.eq_ofNat_of_zero_le hm.1
   rw [hp,set_rowA (by omega),Option.bind_some,wrap_in (by omega) (by omega)]
   congr 3
   refine row_congr fun i _=>?_
   rw [List.take_succ_eq_append_getElem hk]
   unfold t0
   rw [List.any_append]
   simp only [List.any_cons,List.any_nil,Bool.or_false,hp,Int.toNat_natCast]
   by_cases e:i=p
   ·rw [if_pos e,decide_eq_true e,Bool.or_true]
   ·rw [if_neg e,decide_eq_false e,Bool.or_false]) (by
   dsimp only
   rw [geI (by show (c.2.1.length:Int)≤(c.2.1.length:Int);omega),cond_false])
  rw [List.take_length] at L
  exact L
 refine bind_of (x:=row c.1.toNat (td c)) ?_ rfl
 have LO:=count_loop (body:=fun (s:Int×List Bool) =>
       bif ltM s.1 c.1 then
        Option.bind
         (loopM
          (fun (s_1:Int×List Bool) =>
           bif ltM s_1.1 (lenM c.2.2) then
            Option.bind
             (Option.bind (idxM c.2.2 s_1.1) fun (r_1:Int×Int×Int×Int×Int) =>
              Option.bind (chkM r_1.1 (lenM s_1.2)) fun (r_2:Unit) =>
               Option.bind (idxM s_1.2 r_1.1) fun (r_3:Bool) =>
                Option.bind
                 (bif PE.notM r_3 then idxM c.2.2 s_1.1
                 else some ((0:Int),(0:Int),(0:Int),(0:Int),(0:Int)))
                 fun (r_4:Int×Int×Int×Int×Int) =>
                 Option.bind (bif PE.notM r_3 then chkM r_4.2.1 (lenM s_1.2) else some ())
                  fun (r_5:Unit) =>
                  Option.bind (bif PE.notM r_3 then idxM s_1.2 r_4.2.1 else some false)
                   fun (r_6:Bool) =>
                   bif PE.orM r_3 r_6 then
                    Option.bind (idxM c.2.2 s_1.1) fun (r_7:Int×Int×Int×Int×Int) =>
                     Option.bind (chkM r_7.1 (lenM s_1.2)) fun (r_8:Unit) =>
                      Option.bind (setM s_1.2 r_7.1 fun (x:Bool)=>some true)
                       fun (r_9:List Bool) =>
                       Option.bind (idxM c.2.2 s_1.1) fun (r_10:Int×Int×Int×Int×Int) =>
                        Option.bind (chkM r_10.2.1 (lenM r_9)) fun (r_11:Unit) =>
                         Option.bind (setM r_9 r_10.2.1 fun (x:Bool)=>some true)
                          fun (r:List Bool)=>some r
                   else some s_1.2)
             fun (o:List Bool)=>some (Sum.inl (IntKind.wrap IntKind.i64 (s_1.1+(1:Int)),o))
           else some (Sum.inr s_1.2))
          ((0:Int),s.2))
         fun (o:List Bool)=>some (Sum.inl (IntKind.wrap IntKind.i64 (s.1+(1:Int)),o))
       else some (Sum.inr s.2)) (fun k=>row c.1.toNat (tdR c k)) c.1.toNat (r:=row c.1.toNat (tdR c c.1.toNat)) (fun k hk=>by
  dsimp only
  rw [ltI (by omega),cond_true]
  refine bind_of (x:=row c.1.toNat (tdR c (k+1))) ?_ (by rw [wrap_in (by omega) (by omega)])
  have e0:row c.1.toNat (tdR c k)=row c.1.toNat (sweep (c.2.2.take 0) (tdR c k)):=rfl
  have e1:tdR c (k+1)=sweep (c.2.2.take c.2.2.length) (tdR c k):=by rw [List.take_length];rfl
  rw [e0,e1]
  generalize tdR c k=t
  refine count_loop (fun j=>row c.1.toNat (sweep (c.2.2.take j) t)) c.2.2.length (fun j hj=>?_) ?_
  ·have hm:=h.sg _ (List.getElem_mem hj)
   have es:sweep (c.2.2.take (j+1)) t=stepT (sweep (c.2.2.take j) t) c.2.2[j]:=by
    unfold sweep
    rw [List.take_succ_eq_append_getElem hj,List.foldl_append]
    rfl
   rw [es]
   generalize sweep (c.2.2.take j) t=u
   dsimp only
   rw [ltI (by show (j:Int)<(c.2.2.length:Int);omega),cond_true,idxM_lt hj,hlR]
   generalize c.2.2[j]=s at *
   obtain ⟨p,hp⟩:=Int.eq_ofNat_of_zero_le hm.1
   obtain ⟨q,hq⟩:=Int.eq_ofNat_of_zero_le hm.2.2.1
   obtain ⟨s1,s2,s3⟩:=s
   dsimp only at hp hq hm
   subst hp
   subst hq
   have hp':p<c.1.toNat:=by omega
   have hq':q<c.1.toNat:=by omega
   refine bind_of (x:=row c.1.toNat (stepT u ((p:Int),(q:Int),s3))) ?_ (by rw [wrap_in (by omega) (by omega)])
   rw [Option.bind_some]
   dsimp only
   rw [chkM_of (by omega) (by omega),Option.bind_some,row_idx hp',Option.bind_some]
   have both:(Option.bind (some ((p:Int),(q:Int),s3)) fun (r_7:Int×Int×Int×Int×Int) =>
                     Option.bind (chkM r_7.1 c.1) fun (r_8:Unit) =>
                      Option.bind (setM (row c.1.toNat u) r_7.1 fun (x:Bool)=>some true)
                       fun (r_9:List Bool) =>
                       Option.bind (some ((p:Int),(q:Int),s3)) fun (r_10:Int×Int×Int×Int×Int) =>
                        Option.bind (chkM r_10.2.1 (lenM r_9)) fun (r_11:Unit) =>
                         Option.bind (setM r_9 r_10.2.1 fun (x:Bool)=>some true)
                          fun (r:List Bool)=>some r)=some (row c.1.toNat fun i=>if i=q then true else if i=p then true else u i):=by
    rw [Option.bind_some]
    dsimp only
    rw [chkM_of (by omega) (by omega),Option.bind_some,set_rowA hp',Option.bind_some,Option.bind_some,hlR]
    dsimp only
    rw [chkM_of (by omega) (by omega),Option.bind_some,set_rowA hq',Option.bind_some]
   have eT:(u p||u q)=true→row c.1.toNat (fun i=>if i=q then true else if i=p then true else u i)=row c.1.toNat (stepT u ((p:Int),(q:Int),s3)):=fun hu=>by
    refine row_congr fun i _=>?_
    unfold stepT
    dsimp only
    rw [Int.toNat_natCast,Int.toNat_natCast,hu,Bool.true_and]
    by_cases e1:i=q
    ·rw [if_pos e1,decide_eq_true (.inr e1),Bool.or_true]
    ·rw [if_neg e1]
     by_cases e2:i=p
     ·rw [if_pos e2,decide_eq_true (.inl e2),Bool.or_true]
     ·rw [if_neg e2,decide_eq_false (by rintro (h | h)<;>contradiction),Bool.or_false]
   have eF:(u p||u q)=false→row c.1.toNat u=row c.1.toNat (stepT u ((p:Int),(q:Int),s3)):=fun hu=>by
    refine row_congr fun i _=>?_
    unfold stepT
    dsimp only
    rw [Int.toNat_natCast,Int.toNat_natCast,hu,Bool.false_and,Bool.or_false]
   cases hup:u p with
   | true =>
    rw [notT,cond_false,Option.bind_some,cond_false,Option.bind_some,cond_false,Option.bind_some,orT,cond_true,both,eT (by rw [hup];rfl)]
   | false =>
    rw [notF,cond_true,Option.bind_some,cond_true]
    dsimp only
    rw [chkM_of (by omega) (by omega),Option.bind_some,cond_true,row_idx hq',Option.bind_some,orF]
    cases huq:u q with
    | true=>rw [cond_true,both,eT (by rw [hup,huq];rfl)]
    | false=>rw [cond_false,eF (by rw [hup,huq];rfl)]
  ·dsimp only
   rw [geI (by show (c.2.2.length:Int)≤(c.2.2.length:Int);omega),cond_false]) (by
  dsimp only
  rw [geI (by omega),cond_false])
 exact LO
theorem stepT_mono {t:Nat→Bool} {s:Sgt} {i:Nat} (h:t i=true):stepT t s i=true:=by unfold stepT;rw [h];rfl
theorem sweep_mono:∀ {ss:List Sgt} {t:Nat→Bool} {i:Nat},t i=true→sweep ss t i=true
 | [],_,_,h=>h
 | s::r,t,i,h=>by
  show sweep r (stepT t s) i=true
  exact sweep_mono (stepT_mono h)
theorem sweep_adds:∀ {ss:List Sgt} {t:Nat→Bool} {s:Sgt},s∈ss→(t s.1.toNat=true∨t s.2.1.toNat=true)→sweep ss t s.1.toNat=true∧sweep ss t s.2.1.toNat=true
 | s0::r,t,s,hs,ht=>by
  show sweep r (stepT t s0) s.1.toNat=true∧sweep r (stepT t s0) s.2.1.toNat=true
  rcases List.mem_cons.1 hs with rfl | hs
  ·have hor:(t s.1.toNat||t s.2.1.toNat)=true:=by
    rcases ht with h | h<;>rw [h]<;>simp
   refine ⟨sweep_mono ?_,sweep_mono ?_⟩
   ·unfold stepT
    rw [hor,decide_eq_true (.inl rfl)];simp
   ·unfold stepT
    rw [hor,decide_eq_true (.inr rfl)];simp
  ·exact sweep_adds hs (ht.imp stepT_mono stepT_mono)
theorem tdR_mono {c:Net} {i:Nat}:∀ {k m:Nat},k≤m→tdR c k i=true→tdR c m i=true:=by
 intro k m hkm h
 induction m with
 | zero =>
  have:k=0:=by omega
  subst this
  exact h
 | succ m ih =>
  by_cases e:k=m+1
  ·subst e;exact h
  ·exact sweep_mono (ih (by omega))
end Go.Proofs.YthdfmkpebafpoaaGreatDoor
namespace Go.Proofs.YthdfmkpebafpoaaGreatDoor
open Go Go.Abs Go.PE
structure Pot (c:Net) (gx gy:Nat→Int):Prop where
 kx:∀ a b:Nat,∀ m:Int,((a:Int),(b:Int),m)∈(axX c).2→gx b-gx a≤m
 ky:∀ a b:Nat,∀ m:Int,((a:Int),(b:Int),m)∈(axY c).2→gy b-gy a≤m
theorem Pot.ok {c:Net} (h:NOK c) {gx gy:Nat→Int} (hp:Pot c gx gy):okN c=true:=by
 rw [okN_iff]
 constructor
 ·cases ho:ovS (axX c) with
  | false=>rfl
  | true =>
   obtain ⟨i,w,_,hw,hk⟩:=ov_walk (sysX h) ho
   have:=keep_walk hp.kx hk
   omega
 ·cases ho:ovS (axY c) with
  | false=>rfl
  | true =>
   obtain ⟨i,w,_,hw,hk⟩:=ov_walk (sysY h) ho
   have:=keep_walk hp.ky hk
   omega
theorem Pot.box {c:Net} (h:NOK c) {gx gy:Nat→Int} (hp:Pot c gx gy) {i j:Nat} (hi:i≤c.1.toNat) (hj:j≤c.1.toNat) (hc:Cn c i j) :
  ((boxR c i j).1≤gx j-gx i∧gx j-gx i≤(boxR c i j).2.1)∧(boxR c i j).2.2.1≤gy j-gy i∧gy j-gy i≤(boxR c i j).2.2.2:=by
 have ho:=hp.ok h
 have aX:=axisX h ho
 have aY:=axisY h ho
 have k1:=keep_walk hp.kx (aX.wk i j hi hj hc)
 have k2:=keep_walk hp.kx (aX.wk j i hj hi hc.symm)
 have k3:=keep_walk hp.ky (aY.wk i j hi hj hc)
 have k4:=keep_walk hp.ky (aY.wk j i hj hi hc.symm)
 unfold boxR
 dsimp only
 omega
end Go.Proofs.YthdfmkpebafpoaaGreatDoor
