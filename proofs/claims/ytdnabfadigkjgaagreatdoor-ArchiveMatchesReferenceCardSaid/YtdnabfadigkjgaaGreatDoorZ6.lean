/-
 Texts of this proof, put together: M1, M2, M3, PO, M4, M5, Bc, Bd, Be, Bf, Bb, Bg, Bh, Bi, Bj.
 No conditions.
-/
import Derived.Test.YtdnabfadigkjgaaGreatDoorZ5
set_option linter.all false
namespace Go.Proofs.YtdnabfadigkjgaaGreatDoor
open Go Go.Abs Go.PE Go.Proofs
open Go.IntKind (wrap)
set_option maxRecDepth 100000
noncomputable section
def tabsB120:Tabs:=Tabs.add tabsX 120 ⟨as120,rs120,m120⟩
theorem tabsB120OK:TabOK Tryz.prog tabsB120:=TabOK.add tabsXOK (SpecOK_weak c120) Tryz.call120
def tabsB84:Tabs:=Tabs.add tabsB120 84 ⟨as84,rs84,m84⟩
theorem tabsB84OK:TabOK Tryz.prog tabsB84:=TabOK.add tabsB120OK (SpecOK_weak c84) Tryz.call84
def tabsB83:Tabs:=Tabs.add tabsB84 83 ⟨as83,rs83,m83⟩
theorem tabsB83OK:TabOK Tryz.prog tabsB83:=TabOK.add tabsB84OK (SpecOK_weak c83) Tryz.call83
def tabsB149:Tabs:=Tabs.add tabsB83 149 ⟨as149,rs149,m149⟩
theorem tabsB149OK:TabOK Tryz.prog tabsB149:=TabOK.add tabsB83OK (SpecOK_weak c149) Tryz.call149
def tabsB128:Tabs:=Tabs.add tabsB149 128 ⟨as128,rs128,m128⟩
theorem tabsB128OK:TabOK Tryz.prog tabsB128:=TabOK.add tabsB149OK (SpecOK_weak c128) Tryz.call128
def tabsB101:Tabs:=Tabs.add tabsB128 101 ⟨as101,rs101,m101⟩
theorem tabsB101OK:TabOK Tryz.prog tabsB101:=TabOK.add tabsB128OK (SpecOK_weak c101) Tryz.call101
def tabsB62:Tabs:=Tabs.add tabsB101 62 ⟨as62,rs62,m62⟩
theorem tabsB62OK:TabOK Tryz.prog tabsB62:=TabOK.add tabsB101OK (SpecOK_weak c62) Tryz.call62
def tabsB129:Tabs:=Tabs.add tabsB62 129 ⟨as129,rs129,m129⟩
theorem tabsB129OK:TabOK Tryz.prog tabsB129:=TabOK.add tabsB62OK (SpecOK_weak c129) Tryz.call129
def tabsB110:Tabs:=Tabs.add tabsB129 110 ⟨as110,rs110,m110⟩
theorem tabsB110OK:TabOK Tryz.prog tabsB110:=TabOK.add tabsB129OK (SpecOK_weak c110) Tryz.call110
def tabsB76:Tabs:=Tabs.add tabsB110 76 ⟨as76,rs76,m76⟩
theorem tabsB76OK:TabOK Tryz.prog tabsB76:=TabOK.add tabsB110OK (SpecOK_weak c76) Tryz.call76
def tabsS76:Tabs:=Tabs.addSo tabsB76 ⟨81,76,(.pair tI (.pair tI (.pair tI (.pair tI (.pair tI (.pair tI (.pair tI (.pair .str .str)))))))),sortM (.pair tI (.pair tI (.pair tI (.pair tI (.pair tI (.pair tI (.pair tI (.pair .str .str)))))))) cf76⟩
theorem tabsS76OK:TabOK Tryz.prog tabsS76:=TabOK.addSo tabsB76OK sort76
def tabsB82:Tabs:=Tabs.add tabsS76 82 ⟨as82,rs82,m82⟩
theorem tabsB82OK:TabOK Tryz.prog tabsB82:=TabOK.add tabsS76OK (SpecOK_weak c82) Tryz.call82
def tabsS82:Tabs:=Tabs.addSo tabsB82 ⟨81,82,(.pair tI (.pair tI (.pair tI (.pair tI (.pair tI (.pair tI (.pair tI (.pair .str .str)))))))),sortM (.pair tI (.pair tI (.pair tI (.pair tI (.pair tI (.pair tI (.pair tI (.pair .str .str)))))))) cf82⟩
theorem tabsS82OK:TabOK Tryz.prog tabsS82:=TabOK.addSo tabsB82OK sort82
def tabsY:Tabs:=tabsS82
theorem tabsYOK:TabOK Tryz.prog tabsY:=tabsS82OK

/-! putlog/archive.within -/
def as99:List Ty:=[tI,tI,tI]
def rs99:List Ty:=[.bool]
def an99:Ann:=.a
def m99:(Int×Int×Int)→Option (Bool) :=
 fun x=>some (PE.andM (leM x.2.1 x.1) (leM x.1 x.2.2))
theorem c99:SpecOK Tryz.prog 99 ⟨as99,rs99,m99⟩ :=
 fc tabsYOK [] an99 Tryz.f99 fun x=>by kernel_rfl
def tabs99:Tabs:=Tabs.add tabsY 99 ⟨as99,rs99,m99⟩
theorem tabs99OK:TabOK Tryz.prog tabs99:=TabOK.add tabsYOK c99 Tryz.call99

/-! putlog/archive.isValid -/
def as61:List Ty:=[tR]
def rs61:List Ty:=[.bool]
def an61:Ann:=.a
def m61:(Int×Int×Int×Int×Int×Int×Int×List UInt8×List UInt8)→Option (Bool) :=
 fun x=>(m99 (x.1,0,7)).bind fun r=>(bif PE.notM (PE.notM r) then m99 (x.2.1,0,39) else some false).bind fun r_1=>(bif PE.notM (PE.orM (PE.notM r)
 (PE.notM r_1)) then m99 (x.2.2.1,0,800000) else some false).bind fun r_2=>bif PE.orM (PE.orM (PE.orM (PE.orM (PE.notM r) (PE.notM r_1)) (PE.notM r_2))
 (PE.notM (eqM (lenM x.2.2.2.2.2.2.2.1) 32))) (PE.notM (eqM (lenM x.2.2.2.2.2.2.2.2) 32)) then some false else bif eqM x.2.2.2.1 1 then (m99 (x.2.2.2.2.1,0,
 99)).bind fun r_3=>(bif r_3 then m99 (x.2.2.2.2.2.1,(-10000),10000) else some false).bind fun r=>some (PE.andM (PE.andM r_3 r) (eqM x.2.2.2.2.2.2.1
 (-1))) else bif eqM x.2.2.2.1 2 then (bif PE.andM (eqM x.2.2.2.2.1 0) (eqM x.2.2.2.2.2.1 0) then m99 (x.2.2.2.2.2.2.1,0,wrap .i64 (x.2.1-1)) else
 some false).bind fun r=>some (PE.andM (PE.andM (eqM x.2.2.2.2.1 0) (eqM x.2.2.2.2.2.1 0)) r) else some false
theorem c61:SpecOK Tryz.prog 61 ⟨as61,rs61,m61⟩ :=
 fc tabs99OK [] an61 Tryz.f61 fun x=>by kernel_rfl
def tabs61:Tabs:=Tabs.add tabs99 61 ⟨as61,rs61,m61⟩
theorem tabs61OK:TabOK Tryz.prog tabs61:=TabOK.add tabs99OK c61 Tryz.call61

/-! putlog/archive.Valid -/
def as29:List Ty:=[(.one (.list tR))]
def rs29:List Ty:=[.bool]
def an29:Ann:=.seq (.a) (.seq (.seq (.a) (.block (.loop ⟨[(8,.r (.c (.d (.d tI))))],(3::4::ra 9 23 ([])),[],[]⟩ [(.exit 0,⟨[],(3::4::ra 8 24 ([])),[],[]⟩),(.ret,⟨[(2,.r (.c (.d (.d .bool))))],(3::4::ra 8 24 ([])),[],[]⟩)] (.seq (.a) (.seq (.a) (.seq (.block (.seq (.a) (.seq (.reg [0,1,3,7,15,31,63,127,255,127,639,2047,4095,127,16383,32767,65535,131071] (ra 0 18 ([])) (.s [1] []::za 7 (.s [0] []::za 4 (.s [1] []::za 4 ([])))) (.a)) (.a)))) (.a))))))) (.a))
def m29:(List (Int×Int×Int×Int×Int×Int×Int×List UInt8×List UInt8))→Option (Bool) :=
 fun x=>(loopM (fun (s:Int)=>bif ltM s (lenM x) then (idxM x s).bind fun r=>(m61 (r.1,r.2.1,r.2.2.1,r.2.2.2.1,r.2.2.2.2.1,r.2.2.2.2.2.1,
 r.2.2.2.2.2.2.1,r.2.2.2.2.2.2.2.1,r.2.2.2.2.2.2.2.2)).bind fun r_1=>(bif PE.andM (PE.notM (PE.notM r_1)) (ltM 0 s) then idxM x (wrap .i64 (s-1))
 else some (0,0,0,0,0,0,0,[],[])).bind fun r_2=>(bif PE.andM (PE.notM (PE.notM r_1)) (ltM 0 s) then m76 ((r_2.1,r_2.2.1,r_2.2.2.1,r_2.2.2.2.1,
 r_2.2.2.2.2.1,r_2.2.2.2.2.2.1,r_2.2.2.2.2.2.2.1,r_2.2.2.2.2.2.2.2.1,r_2.2.2.2.2.2.2.2.2),r.1,r.2.1,r.2.2.1,r.2.2.2.1,r.2.2.2.2.1,r.2.2.2.2.2.1,
 r.2.2.2.2.2.2.1,r.2.2.2.2.2.2.2.1,r.2.2.2.2.2.2.2.2) else some 0).bind fun r=>bif PE.orM (PE.notM r_1) (PE.andM (ltM 0 s) (leM 0 r)) then some (Sum.inr
 (Sum.inr false)) else some (Sum.inl (wrap .i64 (s+1))) else some (Sum.inr (Sum.inl ()))) 0).bind fun o=>Sum.elim (fun (t:Unit)=>some (leM (lenM
 x) 40)) (fun (t:Bool)=>some t) o
theorem c29:SpecOK Tryz.prog 29 ⟨as29,rs29,m29⟩ :=
 fc tabs61OK [] an29 Tryz.f29 fun x=>by kernel_rfl
def tabs29:Tabs:=Tabs.add tabs61 29 ⟨as29,rs29,m29⟩
theorem tabs29OK:TabOK Tryz.prog tabs29:=TabOK.add tabs61OK c29 Tryz.call29

/-! putlog/digest.mixed -/
def as152:List Ty:=[(.int .u32),tL]
def rs152:List Ty:=[(.int .u32)]
def an152:Ann:=.seq (.a) (.seq (.a) (.seq (.seq (.a) (.block (.loop ⟨[(5,.r (.c (.d (.d (.int .u32))))),(10,.r (.c (.d (.d tI))))],(7::ra 11 10 ([])),[],[]⟩ [(.exit 0,⟨[(5,.r (.c (.d (.d (.int .u32)))))],(7::ra 10 11 ([])),[],[]⟩)] (.seq (.a) (.seq (.a) (.seq (.block (.seq (.a) (.reg [] [] [z0,z0,z0,z0,.r,z0,z0] (.call [] [] (.seq (.a) (.a)) (.a))))) (.a))))))) (.a)))
def m152:(Int×List Int)→Option (Int) :=
 fun x=>(loopM (fun (s:Int×Int)=>bif ltM s.2 (lenM x.2) then (idxM x.2 s.2).bind fun r=>(shlM .u32 x.1 (bitM BinOp.and .u64 (wrap
 IntKind.u64 (wrap .i64 (negM r))) 31)).bind fun r_1=>(shrM .u32 x.1 (wrap .u64 (32-bitM BinOp.and .u64 (wrap .u64 (wrap
 IntKind.i64 (negM r))) 31))).bind fun r=>some (Sum.inl (bitM BinOp.xor .u32 s.1 (bitM BinOp.or .u32 r_1 r),wrap .i64 (s.2+1))) else
 some (Sum.inr s.1)) (0,0)).bind fun o=>some o
theorem c152:SpecOK Tryz.prog 152 ⟨as152,rs152,m152⟩ :=
 fc tabs29OK [] an152 Tryz.f152 fun x=>by kernel_rfl
def tabs152:Tabs:=Tabs.add tabs29 152 ⟨as152,rs152,m152⟩
theorem tabs152OK:TabOK Tryz.prog tabs152:=TabOK.add tabs29OK c152 Tryz.call152

/-! (putlog/digest.words).digest -/
def as132:List Ty:=[(.pair (.int .u32) (.pair (.int .u32) (.pair (.int .u32) (.pair (.int .u32) (.pair (.int .u32) (.pair (.int .u32) (.pair (.int .u32) (.int .u32))))))))]
def rs132:List Ty:=[.str]
def an132:Ann:=.seq (.a) (.seq (.a) (.seq (.seq (.a) (.block (.loop ⟨[(8,.r (.c (.d (.d tI))))],(4::5::6::ra 9 19 ([])),[(1,.flat 32 (.int .u8))],[]⟩ [(.exit 0,⟨[],(4::5::6::ra 8 20 ([])),[(1,.flat 32 (.int .u8))],[]⟩)] (.seq (.a) (.seq (.a) (.seq (.block (.seq (.a) (.seq (.a) (.block (.loop ⟨[(12,.r (.c (.d (.d tI))))],(6::ra 13 14 ([])),[(1,.flat 32 (.int .u8))],[]⟩ [(.exit 2,⟨[],(6::ra 12 15 ([])),[(1,.flat 32 (.int .u8))],[]⟩)] (.a)))))) (.a))))))) (.a)))
def m132:(Int×Int×Int×Int×Int×Int×Int×Int)→Option (List UInt8) :=
 fun x=>(loopM (fun (s:Int×List Int)=>bif ltM s.1 8 then (idxM [x.1,x.2.1,x.2.2.1,x.2.2.2.1,x.2.2.2.2.1,x.2.2.2.2.2.1,x.2.2.2.2.2.2.1,
 x.2.2.2.2.2.2.2] s.1).bind fun r=>(loopM (fun (s_1:Int×List Int)=>bif ltM s_1.1 4 then (shrM .u32 r (wrap .i64 (24-wrap .i64 (8
 * s_1.1)))).bind fun r_1=>(chkM (wrap .i64 (wrap .i64 (4*s.1)+s_1.1)) ↑(nat_lit 32)).bind fun r_2=>(setM s_1.2 (↑(nat_lit 0)+wrap
 IntKind.i64 (wrap .i64 (4*s.1)+s_1.1)*↑(nat_lit 1)) fun (x:Int)=>some (wrap .u8 r_1)).bind fun r=>some (Sum.inl (wrap IntKind.i64
 (s_1.1+1),r)) else some (Sum.inr s_1.2)) (0,s.2)).bind fun o=>some (Sum.inl (wrap .i64 (s.1+1),o)) else some (Sum.inr s.2)) (0,[0,0,0,0,
 0,0,0,0,0,0,0,0,0,0,0,0,0,0,0,0,0,0,0,0,0,0,0,0,0,0,0,0])).bind fun o=>some (strB (partV o (nat_lit 0) (nat_lit 32)))
theorem c132:SpecOK Tryz.prog 132 ⟨as132,rs132,m132⟩ :=
 fc tabs152OK [1,3] an132 Tryz.f132 fun x=>by kernel_rfl
def tabs132:Tabs:=Tabs.add tabs152 132 ⟨as132,rs132,m132⟩
theorem tabs132OK:TabOK Tryz.prog tabs132:=TabOK.add tabs152OK c132 Tryz.call132

/-! putlog/digest.Sum -/
def as112:List Ty:=[.str]
def rs112:List Ty:=[.str]
def an112:Ann:=.seq (.a) (.seq (.a) (.seq (.a) (.seq (.block (.loop ⟨[(4,.r (.c (.h 3)))],(ra 12 7 ([])),[(2,.gone)],[.arr (.int .u8)]⟩ [(.exit 0,⟨[(4,.r (.c (.h 3)))],(ra 12 7 ([])),[(2,.gone)],[.arr (.int .u8)]⟩)] (.a))) (.seq (.seq (.a) (.block (.loop ⟨[(4,.r (.c (.h 4))),(5,.r (.c (.d (.d tI))))],(ra 19 14 ([])),[(3,.gone)],[.arr (.int .u8)]⟩ [(.exit 2,⟨[(4,.r (.c (.h 4)))],(5::ra 19 14 ([])),[(3,.gone)],[.arr (.int .u8)]⟩)] (.a)))) (.seq (.seq (.reg [] [] [z0,.r] (.call [] [] (.seq (.a) (.a)) (.a))) (.block (.call [] [] (.seq (.a) (.block (.loop ⟨[(4,.r (.c (.d (.d tI))))],(ra 5 26 ([])),[(0,.flat 8 (.int .u32)),(4,.frz (.int .u8)),(7,.lp .ready)],[]⟩ [(.exit 0,⟨[],(ra 4 27 ([])),[(0,.flat 8 (.int .u32)),(4,.frz (.int .u8)),(7,.lp .ready)],[]⟩)] (.seq (.a) (.seq (.block (.seq (.reg [0,0,0,6,14,31,63] (ra 0 7 ([])) (.s [6] []::.s [5] []::z0::.s [4] []::za 3 ([])) (.a)) (.seq (.reg [] [] [z0,.s [5] [],z0,z0,z0,z0,z0,z0,z0,.s [4] [],.r,z0] (.call [3] [] (.seq (.a) (.block (.reg [] [] [z0,.r] (.call [4,5] [] (.seq (.reg [] [] [z0,.r,.s [] [9],.s [9] [9]] (.call [2] [] (.seq (.a) (.seq (.seq (.a) (.block (.loop ⟨[(7,.r (.c (.d (.d tI))))],(3::ra 8 38 ([])),[(8,.flat 64 (.int .u32))],[]⟩ [(.exit 0,⟨[],(3::ra 7 39 ([])),[(8,.flat 64 (.int .u32))],[]⟩)] (.seq (.a) (.seq (.a) (.seq (.block (.seq (.a) (.reg [0,0,0,4,14,30,62,126,0,0,512,1536,3840,7936,16128,32512,65534,0,0,262144,786432,1966080,4063232,8257536,16646144,33554430,0,0,134217728,402653184,1006632960,2080374784,4227858432,8589934590,17179869183,34359738367] (ra 0 36 ([])) (za 34 (.s [8] []::.s [8] [8]::[])) (.a)))) (.a))))))) (.seq (.seq (.a) (.block (.loop ⟨[(4,.r (.c (.d (.d tI))))],(5::6::ra 46 37 ([])),[(8,.flat 64 (.int .u32))],[]⟩ [(.exit 2,⟨[],(4::5::6::ra 46 37 ([])),[(8,.flat 64 (.int .u32))],[]⟩)] (.seq (.a) (.seq (.block (.seq (.reg [0,1,3,7,0,16,48,112,15,511] (ra 0 10 ([])) [z0,z0,.s [8] [],.s [8] [],z0,z0,.s [8] [],.s [8] [],z0,z0] (.a)) (.reg [0,0,2,6,14,0,0,96,0,256,992,2046,0,4096,12288,28672,65534,0,0,393440,0,1048576,4063456,8388606,16777215,33554431] (ra 0 26 ([])) (za 3 (.s [8] []::.s [8] []::za 9 (.s [8] []::.s [8] []::za 8 (.s [8] []::.s [8] [8]::[])))) (.a)))) (.a)))))) (.a)))) (.a))) (.seq (.a) (.seq (.seq (.a) (.block (.loop ⟨[(19,.r (.c (.d (.d tI))))],(ra 6 6 (ra 20 62 ([]))),[(10,.flat 8 (.int .u32))],[]⟩ [(.exit 0,⟨[],(ra 6 6 (ra 19 63 ([]))),[(10,.flat 8 (.int .u32))],[]⟩)] (.seq (.a) (.seq (.a) (.seq (.block (.seq (.a) (.seq (.reg [0,1,0,4,3,31] (ra 0 6 ([])) [z0,.s [10] [],z0,.s [10] [],z0,z0] (.a)) (.seq (.reg [0,1,0,0,12,31,0,0,128,448,0,1024,0,4096,15360,32704,65535,0,262143,0,524288,1572864,4194303,8388607] (ra 0 24 ([])) (z0::.s [10] []::za 6 (.s [10] []::za 4 (.s [10] []::za 6 (.s [9] []::.s [9] []::z0::z0::[])))) (.a)) (.seq (.reg [0,0,3,0,0,16,56,0,0,256,896,2040,0,4096,0,16384,61440,131064,262143,524287] (ra 0 20 ([])) (za 5 (.s [10] []::za 3 (.s [10] []::za 3 (.s [10] []::z0::.s [10] []::za 4 ([]))))) (.a)) (.seq (.reg [0,0,3] [0,1,2] [.s [10] [],.s [10] [],.s [10,10] [10]] (.a)) (.a))))))) (.a))))))) (.seq (.a) (.block (.loop ⟨[(82,.r (.c (.d (.d tI))))],(12::ra 83 14 ([])),[(0,.flat 8 (.int .u32))],[]⟩ [(.exit 2,⟨[],(12::ra 82 15 ([])),[(0,.flat 8 (.int .u32))],[]⟩)] (.seq (.a) (.seq (.a) (.seq (.block (.seq (.a) (.reg [0,0,1,7,15,0,32,96,255,1,1023,2047] (ra 0 12 ([])) (za 3 (.s [0] []::.s [0] []::z0::.s [10] []::.s [10] []::z0::z0::.s [0] []::.s [0] [0]::[])) (.a)))) (.a)))))))))) (.a))))) (.a))) (.a)))) (.a)))))) (.a)))) (.a))))))
def m112:List UInt8→Option (List UInt8) :=
 fun x=>(bytesM x).bind fun r=>(appM (nat_lit 1) r [128]).bind fun r_1=>(loopM (fun (s:List Int)=>(remM (lenM s) 64).bind fun r_2=>bif PE.notM (eqM
 r_2 56) then (appM (nat_lit 1) s [0]).bind fun r=>some (Sum.inl r) else some (Sum.inr s)) r_1).bind fun o=>(loopM (fun (s:Int×List Int)=>bif leM 0
 s.1 then (shrM .i64 (wrap .i64 (8*lenM x)) (wrap .i64 (8*s.1))).bind fun r_2=>(appM (nat_lit 1) s.2 [wrap .u8 r_2]).bind fun
 r=>some (Sum.inl (wrap .i64 (s.1-1),r)) else some (Sum.inr s.2)) (7,o)).bind fun o_1=>(loopM (fun (s:Int×List Int×List Int)=>bif ltM
 s.1 (lenM s.2.2) then (sliceM s.2.2 s.1 (lenM s.2.2)).bind fun r_2=>((sameM (wrap .i64 (s.1+min 64 (lenM r_2))) (wrap .i64 (s.1+min 64
 (lenM r_2)))).bind fun (x:Unit)=>sliceM s.2.2 s.1 (wrap .i64 (s.1+min 64 (lenM r_2)))).bind fun r_3=>(loopM (fun (s_1:Int×List Int)=>bif
 ltM s_1.1 16 then (idxM r_3 (wrap .i64 (4*s_1.1))).bind fun r_4=>(shlM .u32 (wrap .u32 r_4) 24).bind fun r_5=>(idxM r_3 (wrap
 IntKind.i64 (wrap .i64 (4*s_1.1)+1))).bind fun r_6=>(shlM .u32 (wrap .u32 r_6) 16).bind fun r_7=>(idxM r_3 (wrap IntKind.i64
 (wrap .i64 (4*s_1.1)+2))).bind fun r_8=>(shlM .u32 (wrap .u32 r_8) 8).bind fun r_9=>(idxM r_3 (wrap .i64 (wrap IntKind.i64
 (4*s_1.1)+3))).bind fun r_10=>(chkM s_1.1 ↑(nat_lit 64)).bind fun r_11=>(setM s_1.2 (↑(nat_lit 0)+s_1.1*↑(nat_lit 1)) fun (x:Int)=>some (bitM
 BinOp.or IntKind.u32 (bitM BinOp.or .u32 (bitM BinOp.or .u32 r_5 r_7) r_9) (wrap .u32 r_10))).bind fun r=>some (Sum.inl (wrap
 IntKind.i64 (s_1.1+1),r)) else some (Sum.inr s_1.2)) (0,[0,0,0,0,0,0,0,0,0,0,0,0,0,0,0,0,0,0,0,0,0,0,0,0,0,0,0,0,0,0,0,0,
 0,0,0,0,0,0,0,0,0,0,0,0,0,0,0,0,0,0,0,0,0,0,0,0,0,0,0,0,0,0,0,0])).bind fun o_2=>(loopM (fun (s_1:Int×List Int)=>bif
 ltM s_1.1 64 then (chkM (wrap .i64 (s_1.1-15)) ↑(nat_lit 64)).bind fun r_4=>(idxM s_1.2 (↑(nat_lit 0)+wrap .i64 (s_1.1-15)*↑(nat_lit
 1))).bind fun r_5=>(chkM (wrap .i64 (s_1.1-2)) ↑(nat_lit 64)).bind fun r_6=>(idxM s_1.2 (↑(nat_lit 0)+wrap .i64 (s_1.1-2)*↑(nat_lit
 1))).bind fun r_7=>(chkM (wrap .i64 (s_1.1-16)) ↑(nat_lit 64)).bind fun r_8=>(idxM s_1.2 (↑(nat_lit 0)+wrap .i64 (s_1.1-16) *
 ↑(nat_lit 1))).bind fun r_9=>(m152 (r_5,[7,18])).bind fun r_10=>(shrM .u32 r_5 3).bind fun r_11=>(chkM (wrap .i64 (s_1.1-7)) ↑(nat_lit
 64)).bind fun r_12=>(idxM s_1.2 (↑(nat_lit 0)+wrap .i64 (s_1.1-7)*↑(nat_lit 1))).bind fun r_13=>(m152 (r_7,[17,19])).bind fun r_14=>(shrM
 IntKind.u32 r_7 10).bind fun r_15=>(chkM s_1.1 ↑(nat_lit 64)).bind fun r_16=>(setM s_1.2 (↑(nat_lit 0)+s_1.1*↑(nat_lit 1)) fun (x:Int)=>some (wrap
 IntKind.u32 (wrap .u32 (wrap .u32 (r_9+bitM BinOp.xor .u32 r_10 r_11)+r_13)+bitM BinOp.xor .u32 r_14 r_15))).bind fun r =>
 some (Sum.inl (wrap .i64 (s_1.1+1),r)) else some (Sum.inr s_1.2)) (16,o_2)).bind fun o_3=>(loopM (fun (s_1:Int×List Int)=>bif ltM s_1.1 64
 then (idxM [1116352408,1899447441,3049323471,3921009573,961987163,1508970993,2453635748,2870763221,3624381080,310598401,607225278,1426881987,
 1925078388,2162078206,2614888103,3248222580,3835390401,4022224774,264347078,604807628,770255983,1249150122,1555081692,1996064986,2554220882,
 2821834349,2952996808,3210313671,3336571891,3584528711,113926993,338241895,666307205,773529912,1294757372,1396182291,1695183700,1986661051,
 2177026350,2456956037,2730485921,2820302411,3259730800,3345764771,3516065817,3600352804,4094571909,275423344,430227734,506948616,659060556,
 883997877,958139571,1322822218,1537002063,1747873779,1955562222,2024104815,2227730452,2361852424,2428436474,2756734187,3204031479,3329325298]
 s_1.1).bind fun r_4=>(idxM s_1.2 ↑(nat_lit 0)).bind fun r_5=>(idxM s_1.2 ↑(nat_lit 4)).bind fun r_6=>(idxM s_1.2 ↑(nat_lit 7)).bind fun r_7=>(m152
 (r_6,[6,11,25])).bind fun r_8=>(idxM s_1.2 ↑(nat_lit 5)).bind fun r_9=>(idxM s_1.2 ↑(nat_lit 6)).bind fun r_10=>(chkM s_1.1 ↑(nat_lit 64)).bind fun
 r_11=>(idxM [nthD o_3 (nat_lit 0) 0,nthD o_3 (nat_lit 1) 0,nthD o_3 (nat_lit 2) 0,nthD o_3 (nat_lit 3) 0,nthD o_3 (nat_lit 4) 0,nthD o_3 (nat_lit 5) 0,
 nthD o_3 (nat_lit 6) 0,nthD o_3 (nat_lit 7) 0,nthD o_3 (nat_lit 8) 0,nthD o_3 (nat_lit 9) 0,nthD o_3 (nat_lit 10) 0,nthD o_3 (nat_lit 11) 0,nthD o_3
 (nat_lit 12) 0,nthD o_3 (nat_lit 13) 0,nthD o_3 (nat_lit 14) 0,nthD o_3 (nat_lit 15) 0,nthD o_3 (nat_lit 16) 0,nthD o_3 (nat_lit 17) 0,nthD o_3 (nat_lit
 18) 0,nthD o_3 (nat_lit 19) 0,nthD o_3 (nat_lit 20) 0,nthD o_3 (nat_lit 21) 0,nthD o_3 (nat_lit 22) 0,nthD o_3 (nat_lit 23) 0,nthD o_3 (nat_lit 24) 0,
 nthD o_3 (nat_lit 25) 0,nthD o_3 (nat_lit 26) 0,nthD o_3 (nat_lit 27) 0,nthD o_3 (nat_lit 28) 0,nthD o_3 (nat_lit 29) 0,nthD o_3 (nat_lit 30) 0,nthD o_3
 (nat_lit 31) 0,nthD o_3 (nat_lit 32) 0,nthD o_3 (nat_lit 33) 0,nthD o_3 (nat_lit 34) 0,nthD o_3 (nat_lit 35) 0,nthD o_3 (nat_lit 36) 0,nthD o_3 (nat_lit
 37) 0,nthD o_3 (nat_lit 38) 0,nthD o_3 (nat_lit 39) 0,nthD o_3 (nat_lit 40) 0,nthD o_3 (nat_lit 41) 0,nthD o_3 (nat_lit 42) 0,nthD o_3 (nat_lit 43) 0,
 nthD o_3 (nat_lit 44) 0,nthD o_3 (nat_lit 45) 0,nthD o_3 (nat_lit 46) 0,nthD o_3 (nat_lit 47) 0,nthD o_3 (nat_lit 48) 0,nthD o_3 (nat_lit 49) 0,nthD o_3
 (nat_lit 50) 0,nthD o_3 (nat_lit 51) 0,nthD o_3 (nat_lit 52) 0,nthD o_3 (nat_lit 53) 0,nthD o_3 (nat_lit 54) 0,nthD o_3 (nat_lit 55) 0,nthD o_3 (nat_lit
 56) 0,nthD o_3 (nat_lit 57) 0,nthD o_3 (nat_lit 58) 0,nthD o_3 (nat_lit 59) 0,nthD o_3 (nat_lit 60) 0,nthD o_3 (nat_lit 61) 0,nthD o_3 (nat_lit 62) 0,
 nthD o_3 (nat_lit 63) 0] (↑(nat_lit 0)+s_1.1*↑(nat_lit 1))).bind fun r_12=>(m152 (r_5,[2,13,22])).bind fun r_13=>(idxM s_1.2 ↑(nat_lit 1)).bind fun
 r_14=>(idxM s_1.2 ↑(nat_lit 2)).bind fun r_15=>(idxM s_1.2 ↑(nat_lit 1)).bind fun r_16=>(idxM s_1.2 ↑(nat_lit 2)).bind fun r_17=>(idxM (moveV s_1.2
 (nat_lit 1) (nat_lit 0) (nat_lit 7)) ↑(nat_lit 4)).bind fun r_18=>(setM (moveV s_1.2 (nat_lit 1) (nat_lit 0) (nat_lit 7)) ↑(nat_lit 0) fun (x:Int)=>some
 (wrap .u32 (wrap .u32 (wrap .u32 (wrap .u32 (wrap .u32 (r_7+r_8)+bitM BinOp.xor .u32 (bitM BinOp.and IntKind.u32
 r_6 r_9) (bitM BinOp.and .u32 (cplM .u32 r_6) r_10))+r_4)+r_12)+wrap .u32 (r_13+bitM BinOp.xor .u32 (bitM BinOp.xor
 IntKind.u32 (bitM BinOp.and .u32 r_5 r_14) (bitM BinOp.and .u32 r_5 r_15)) (bitM BinOp.and .u32 r_16 r_17))))).bind fun r_19=>(setM
 r_19 ↑(nat_lit 4) fun (x:Int)=>some (wrap .u32 (r_18+wrap .u32 (wrap .u32 (wrap .u32 (wrap .u32 (r_7+r_8)+bitM
 BinOp.xor IntKind.u32 (bitM BinOp.and .u32 r_6 r_9) (bitM BinOp.and .u32 (cplM .u32 r_6) r_10))+r_4)+r_12)))).bind fun r=>some
 (Sum.inl (wrap .i64 (s_1.1+1),r)) else some (Sum.inr s_1.2)) (0,[nthD s.2.1 (nat_lit 0) 0,nthD s.2.1 (nat_lit 1) 0,nthD s.2.1 (nat_lit 2) 0,nthD
 s.2.1 (nat_lit 3) 0,nthD s.2.1 (nat_lit 4) 0,nthD s.2.1 (nat_lit 5) 0,nthD s.2.1 (nat_lit 6) 0,nthD s.2.1 (nat_lit 7) 0])).bind fun o_4=>(loopM (fun
 (s_1:Int×List Int)=>bif ltM s_1.1 8 then (chkM s_1.1 ↑(nat_lit 8)).bind fun r_4=>(idxM s_1.2 (↑(nat_lit 0)+s_1.1*↑(nat_lit 1))).bind fun r_5 =>
 (chkM s_1.1 ↑(nat_lit 8)).bind fun r_6=>(idxM o_4 (↑(nat_lit 0)+s_1.1*↑(nat_lit 1))).bind fun r_7=>(chkM s_1.1 ↑(nat_lit 8)).bind fun r_8=>(setM
 s_1.2 (↑(nat_lit 0)+s_1.1*↑(nat_lit 1)) fun (x:Int)=>some (wrap .u32 (r_5+r_7))).bind fun r=>some (Sum.inl (wrap .i64 (s_1.1+1),
 r)) else some (Sum.inr s_1.2)) (0,s.2.1)).bind fun o=>some (Sum.inl (wrap .i64 (s.1+64),o,s.2.2)) else some (Sum.inr (s.2.1,s.2.2))) (0,
 [1779033703,3144134277,1013904242,2773480762,1359893119,2600822924,528734635,1541459225],o_1)).bind fun o_2=>(m132 (nthD o_2.1 (nat_lit 0) 0,nthD
 o_2.1 (nat_lit 1) 0,nthD o_2.1 (nat_lit 2) 0,nthD o_2.1 (nat_lit 3) 0,nthD o_2.1 (nat_lit 4) 0,nthD o_2.1 (nat_lit 5) 0,nthD o_2.1 (nat_lit 6) 0,nthD
 o_2.1 (nat_lit 7) 0)).bind fun r=>some r
theorem c112:SpecOK Tryz.prog 112 ⟨as112,rs112,m112⟩ :=
 fc tabs132OK [3] an112 Tryz.f112 fun x=>by kernel_rfl
def tabs112:Tabs:=Tabs.add tabs132 112 ⟨as112,rs112,m112⟩
theorem tabs112OK:TabOK Tryz.prog tabs112:=TabOK.add tabs132OK c112 Tryz.call112

/-! putlog/digest.Chain -/
def as116:List Ty:=[.str,.str]
def rs116:List Ty:=[.str]
def an116:Ann:=.seq (.a) (.seq (.reg [] [] [.r,z0,z0,z0,.r,z0] (.call [] [] (.seq (.a) (.a)) (.call [] [] (.seq (.a) (.seq (.reg [0,0,2,7,15,31] (ra 0 6 ([])) (.s [0] []::za 5 ([])) (.a)) (.a))) (.a)))) (.a))
def m116:(List UInt8×List UInt8)→Option (List UInt8) :=
 fun x=>(joinM [x.1,x.2] []).bind fun r=>(catM [(2:UInt8)] r).bind fun r_1=>(m112 r_1).bind fun r=>some r
theorem c116:SpecOK Tryz.prog 116 ⟨as116,rs116,m116⟩ :=
 fc tabs112OK [] an116 Tryz.f116 fun x=>by kernel_rfl
def tabs116:Tabs:=Tabs.add tabs112 116 ⟨as116,rs116,m116⟩
theorem tabs116OK:TabOK Tryz.prog tabs116:=TabOK.add tabs112OK c116 Tryz.call116

/-! putlog/archive.believed -/
def as79:List Ty:=[(.one (.list tR)),tI]
def rs79:List Ty:=[(.list tR),.str]
def an79:Ann:=.seq (.a) (.seq (.reg [] [] [z0,.s [0] [],z0,.r,z0] (.call [] [] (.seq (.a) (.seq (.a) (.seq (.seq (.a) (.block (.loop ⟨[(5,.r (.c (.h 2))),(10,.r (.c (.d (.d tI))))],(7::ra 11 11 ([])),[],[.arr tR]⟩ [(.exit 0,⟨[(5,.r (.c (.h 2)))],(7::ra 10 12 ([])),[],[.arr tR]⟩)] (.seq (.a) (.seq (.a) (.seq (.join [(.norm,⟨[(5,.r (.c (.h 3)))],(7::ra 12 9 ([])),[(2,.gone)],[.arr tR]⟩)] (.block (.seq (.a) (.seq (.reg [] [] [z0,.s [3] [],.r] (.call [] [] (.seq (.a) (.a)) (.a))) (.a))))) (.a))))))) (.a)))) (.a))) (.seq (.a) (.seq (.a) (.seq (.block (.loop ⟨[(7,.r (.c (.d (.d .str)))),(8,.r (.c (.d (.d tI))))],(ra 14 46 ([])),[],[]⟩ [(.exit 0,⟨[(7,.r (.c (.d (.d .str)))),(8,.r (.c (.d (.d tI))))],(ra 14 46 ([])),[],[]⟩)] (.a))) (.a)))))
def m79:((List (Int×Int×Int×Int×Int×Int×Int×List UInt8×List UInt8))×Int)→Option ((List (Int×Int×Int×Int×Int×Int×Int×List UInt8×List UInt8))×List UInt8) :=
 fun x=>(loopM (fun (s:Int×List (Int×Int×Int×Int×Int×Int×Int×List UInt8×List UInt8))=>bif ltM s.1 (lenM x.1) then ((idxM x.1 s.1).bind
 fun r=>bif eqM r.1 x.2 then (appM (nat_lit 88) s.2 [(r.1,r.2.1,r.2.2.1,r.2.2.2.1,r.2.2.2.2.1,r.2.2.2.2.2.1,r.2.2.2.2.2.2.1,r.2.2.2.2.2.2.2.1,
 r.2.2.2.2.2.2.2.2)]).bind fun r=>some r else some s.2).bind fun o=>some (Sum.inl (wrap .i64 (s.1+1),o)) else some (Sum.inr s.2)) (0,[])).bind
 fun o=>(rptM [(0:UInt8)] 32).bind fun r=>(loopM (fun (s:List UInt8×Int)=>(bif ltM s.2 (lenM o) then chkM s.2 (lenM o) else some ()).bind fun r_1
 => (bif ltM s.2 (lenM o) then (idxM o s.2).bind fun (x:Int×Int×Int×Int×Int×Int×Int×List UInt8×List UInt8)=>some x.2.1 else some 0).bind
 fun r_2=>(bif PE.andM (ltM s.2 (lenM o)) (eqM r_2 s.2) then chkM s.2 (lenM o) else some ()).bind fun r_3=>(bif PE.andM (ltM s.2 (lenM o)) (eqM r_2 s.2)
 then (idxM o s.2).bind fun (x:Int×Int×Int×Int×Int×Int×Int×List UInt8×List UInt8)=>some x.2.2.2.2.2.2.2.1 else some []).bind fun r_4=>bif
 PE.andM (PE.andM (ltM s.2 (lenM o)) (eqM r_2 s.2)) (eqsM r_4 s.1) then (bif ltM (wrap .i64 (s.2+1)) (lenM o) then chkM (wrap .i64 (s.2+1))
 (lenM o) else some ()).bind fun r_5=>(bif ltM (wrap .i64 (s.2+1)) (lenM o) then (idxM o (wrap .i64 (s.2+1))).bind fun (x:Int×Int×Int
 × Int×Int×Int×Int×List UInt8×List UInt8)=>some x.2.1 else some 0).bind fun r_6=>bif PE.andM (ltM (wrap .i64 (s.2+1)) (lenM o)) (eqM r_6
 s.2) then some (Sum.inr (s.1,s.2)) else (chkM s.2 (lenM o)).bind fun r_7=>(idxM o s.2).bind fun r_8=>(m62 (r_8.1,r_8.2.1,r_8.2.2.1,r_8.2.2.2.1,
 r_8.2.2.2.2.1,r_8.2.2.2.2.2.1,r_8.2.2.2.2.2.2.1,r_8.2.2.2.2.2.2.2.1,r_8.2.2.2.2.2.2.2.2)).bind fun r_9=>(m116 (s.1,r_9)).bind fun r=>some (Sum.inl
 (r,wrap .i64 (s.2+1))) else some (Sum.inr (s.1,s.2))) (r,0)).bind fun o_1=>(sliceM o 0 o_1.2).bind fun r=>some (r,o_1.1)
theorem c79:SpecOK Tryz.prog 79 ⟨as79,rs79,m79⟩ :=
 fc tabs116OK [] an79 Tryz.f79 fun x=>by kernel_rfl
def tabs79:Tabs:=Tabs.add tabs116 79 ⟨as79,rs79,m79⟩
theorem tabs79OK:TabOK Tryz.prog tabs79:=TabOK.add tabs116OK c79 Tryz.call79

/-! putlog/digest.Leaf -/
def as42:List Ty:=[.str]
def rs42:List Ty:=[.str]
def an42:Ann:=.seq (.a) (.seq (.reg [] [] [.r,z0,z0,.r,z0] (.call [] [] (.seq (.a) (.a)) (.call [] [] (.seq (.a) (.seq (.reg [0,0,2,7,15,31] (ra 0 6 ([])) (.s [0] []::za 5 ([])) (.a)) (.a))) (.a)))) (.a))
def m42:List UInt8→Option (List UInt8) :=
 fun x=>(joinM [x] []).bind fun r=>(catM [(0:UInt8)] r).bind fun r_1=>(m112 r_1).bind fun r=>some r
theorem c42:SpecOK Tryz.prog 42 ⟨as42,rs42,m42⟩ :=
 fc tabs79OK [] an42 Tryz.f42 fun x=>by kernel_rfl
def tabs42:Tabs:=Tabs.add tabs79 42 ⟨as42,rs42,m42⟩
theorem tabs42OK:TabOK Tryz.prog tabs42:=TabOK.add tabs79OK c42 Tryz.call42

/-! putlog/digest.Node -/
def as111:List Ty:=[.str,.str]
def rs111:List Ty:=[.str]
def an111:Ann:=.seq (.a) (.seq (.reg [] [] [.r,z0,z0,z0,.r,z0] (.call [] [] (.seq (.a) (.a)) (.call [] [] (.seq (.a) (.seq (.reg [0,0,2,7,15,31] (ra 0 6 ([])) (.s [0] []::za 5 ([])) (.a)) (.a))) (.a)))) (.a))
def m111:(List UInt8×List UInt8)→Option (List UInt8) :=
 fun x=>(joinM [x.1,x.2] []).bind fun r=>(catM [(1:UInt8)] r).bind fun r_1=>(m112 r_1).bind fun r=>some r
theorem c111:SpecOK Tryz.prog 111 ⟨as111,rs111,m111⟩ :=
 fc tabs42OK [] an111 Tryz.f111 fun x=>by kernel_rfl
def tabs111:Tabs:=Tabs.add tabs42 111 ⟨as111,rs111,m111⟩
theorem tabs111OK:TabOK Tryz.prog tabs111:=TabOK.add tabs42OK c111 Tryz.call111

/-! putlog/archive.tag -/
def as85:List Ty:=[.str,tR]
def rs85:List Ty:=[.str]
def an85:Ann:=.a
def m85:(List UInt8×Int×Int×Int×Int×Int×Int×Int×List UInt8×List UInt8)→Option (List UInt8) :=
 fun x=>(m101 (x.2.1,x.2.2.1,x.2.2.2.1,x.2.2.2.2.1,x.2.2.2.2.2.1,x.2.2.2.2.2.2.1,x.2.2.2.2.2.2.2.1,x.2.2.2.2.2.2.2.2.1,x.2.2.2.2.2.2.2.2.2)).bind fun r
 => (m42 r).bind fun r_1=>(m111 (x.1,r_1)).bind fun r=>some r
theorem c85:SpecOK Tryz.prog 85 ⟨as85,rs85,m85⟩ :=
 fc tabs111OK [] an85 Tryz.f85 fun x=>by kernel_rfl
def tabs85:Tabs:=Tabs.add tabs111 85 ⟨as85,rs85,m85⟩
theorem tabs85OK:TabOK Tryz.prog tabs85:=TabOK.add tabs111OK c85 Tryz.call85

/-! putlog/archive.Write -/
def as37:List Ty:=[.str,(.one (.list tR)),tR]
def rs37:List Ty:=[tR,tI]
def an37:Ann:=.a
def m37:(List UInt8×(List (Int×Int×Int×Int×Int×Int×Int×List UInt8×List UInt8))×Int×Int×Int×Int×Int×Int×Int×List UInt8×List UInt8)→Option ((Int×Int×Int×Int×Int×Int×Int×List UInt8×List UInt8)×Int) :=
 fun x=>(bif PE.notM (PE.notM (eqM (lenM x.1) 32)) then m29 x.2.1 else some false).bind fun r=>bif PE.orM (PE.notM (eqM (lenM x.1) 32)) (PE.notM r) then some
 ((0,0,0,0,0,0,0,[],[]),390) else (m79 (x.2.1,x.2.2.1)).bind fun r_1=>(m61 (x.2.2.1,lenM r_1.1,x.2.2.2.2.1,x.2.2.2.2.2.1,x.2.2.2.2.2.2.1,
 x.2.2.2.2.2.2.2.1,x.2.2.2.2.2.2.2.2.1,r_1.2,r_1.2)).bind fun r_2=>bif PE.notM r_2 then some ((0,0,0,0,0,0,0,[],[]),390) else (m85 (x.1,x.2.2.1,
 lenM r_1.1,x.2.2.2.2.1,x.2.2.2.2.2.1,x.2.2.2.2.2.2.1,x.2.2.2.2.2.2.2.1,x.2.2.2.2.2.2.2.2.1,r_1.2,r_1.2)).bind fun r=>some ((x.2.2.1,lenM r_1.1,
 x.2.2.2.2.1,x.2.2.2.2.2.1,x.2.2.2.2.2.2.1,x.2.2.2.2.2.2.2.1,x.2.2.2.2.2.2.2.2.1,r_1.2,r),0)
theorem c37:SpecOK Tryz.prog 37 ⟨as37,rs37,m37⟩ :=
 fc tabs85OK [] an37 Tryz.f37 fun x=>by kernel_rfl
def tabs37:Tabs:=Tabs.add tabs85 37 ⟨as37,rs37,m37⟩
theorem tabs37OK:TabOK Tryz.prog tabs37:=TabOK.add tabs85OK c37 Tryz.call37

/-! putlog/archive.Add -/
def as31:List Ty:=[(.one (.list tR)),tR]
def rs31:List Ty:=[(.one (.list tR)),tI]
def an31:Ann:=.seq (.a) (.seq (.a) (.seq (.reg [0,1,3,0,8,31,63,127,127,511,1023] (ra 0 11 ([])) [z0,.s [0] [],.s [] [3],.s [1] [],z0,.s [3] [4,3],.r,z0,z0,.s [2,5] [2],z0] (.call [] [(.norm,⟨[(21,.t [.s [.h 5],.c (.d (.d tI))])],[],[(4,.gone)],[.arr tR]⟩)] (.seq (.a) (.seq (.a) (.seq (.reg [] [] [z0,.r,z0] (.call [2000028,2000056,2000059] [(.norm,⟨[(7,.r (.c (.h 6)))],[],[(4,.gone)],[.arr tR]⟩)] (.seq (.a) (.seq (.a) (.seq (.seq (.a) (.block (.loop ⟨[(3,.r (.c (.d (.d tI))))],(ra 10 16 ([])),[],[]⟩ [(.exit 0,⟨[],(3::ra 10 16 ([])),[],[]⟩),(.ret,⟨[(2,.r (.c (.h 6)))],(3::4::5::ra 10 50 ([])),[(4,.gone)],[.arr tR]⟩)] (.seq (.a) (.seq (.block (.seq (.reg [0,0,3,7,0,0,32,112,240,511] (ra 0 10 ([])) (z0::z0::.s [4] []::.s [4] []::za 3 (.s [4] []::.s [4] []::z0::[])) (.a)) (.cond (.seq (.a) (.seq (.seq (.a) (.block (.loop ⟨[(3,.r (.c (.d (.d tI)))),(5,.r (.c (.d (.d tI))))],(ra 29 25 ([])),[(4,.arr tR)],[]⟩ [(.exit 2,⟨[(3,.r (.c (.d (.d tI))))],(5::ra 29 25 ([])),[(4,.arr tR)],[]⟩)] (.seq (.a) (.seq (.join [(.norm,⟨[(3,.r (.c (.d (.d tI))))],(ra 35 19 ([])),[(4,.arr tR)],[]⟩)] (.block (.seq (.reg [0,0,3,7,0,0,32,112,240,511] (ra 0 10 ([])) (z0::z0::.s [4] []::.s [4] []::za 3 (.s [4] []::.s [4] []::z0::[])) (.a)) (.a)))) (.a)))))) (.a))) (.a)))) (.a)))))) (.a)))) (.a))) (.a)))) (.a))) (.a)))
def m31:((List (Int×Int×Int×Int×Int×Int×Int×List UInt8×List UInt8))×Int×Int×Int×Int×Int×Int×Int×List UInt8×List UInt8)→Option ((List (Int×Int×Int×Int×Int×Int×Int×List UInt8×List UInt8))×Int) :=
 fun x=>(m29 x.1).bind fun r=>(bif PE.notM (PE.notM r) then m61 (x.2.1,x.2.2.1,x.2.2.2.1,x.2.2.2.2.1,x.2.2.2.2.2.1,x.2.2.2.2.2.2.1,x.2.2.2.2.2.2.2.1,
 x.2.2.2.2.2.2.2.2.1,x.2.2.2.2.2.2.2.2.2) else some false).bind fun r_1=>bif PE.orM (PE.notM r) (PE.notM r_1) then some ([],390) else (mo77 x.1).bind fun
 r_2=>(appM (nat_lit 88) r_2 [(x.2.1,x.2.2.1,x.2.2.2.1,x.2.2.2.2.1,x.2.2.2.2.2.1,x.2.2.2.2.2.2.1,x.2.2.2.2.2.2.2.1,x.2.2.2.2.2.2.2.2.1,
 x.2.2.2.2.2.2.2.2.2)]).bind fun r_3=>((sortM (Ty.pair (Ty.int IntKind.i64) (Ty.pair (Ty.int IntKind.i64) (Ty.pair (Ty.int IntKind.i64) (Ty.pair (Ty.int
 IntKind.i64) (Ty.pair (Ty.int IntKind.i64) (Ty.pair (Ty.int IntKind.i64) (Ty.pair (Ty.int IntKind.i64) (Ty.pair Ty.str Ty.str)))))))) cf76 r_3).bind fun r_4
 => (bif ltM (lenM r_4) 2 then some r_4 else (loopM (fun (s:Int)=>bif ltM s (lenM r_4) then (chkM s (lenM r_4)).bind fun r_5=>(idxM r_4 s).bind fun r_6
 => (chkM (wrap .i64 (s-1)) (lenM r_4)).bind fun r_7=>(idxM r_4 (wrap .i64 (s-1))).bind fun r_8=>bif PE.andM (eqM r_6.1 r_8.1) (PE.andM
 (eqM r_6.2.1 r_8.2.1) (PE.andM (eqM r_6.2.2.1 r_8.2.2.1) (PE.andM (eqM r_6.2.2.2.1 r_8.2.2.2.1) (PE.andM (eqM r_6.2.2.2.2.1 r_8.2.2.2.2.1) (PE.andM (eqM
 r_6.2.2.2.2.2.1 r_8.2.2.2.2.2.1) (PE.andM (eqM r_6.2.2.2.2.2.2.1 r_8.2.2.2.2.2.2.1) (PE.andM (eqsM r_6.2.2.2.2.2.2.2.1 r_8.2.2.2.2.2.2.2.1) (eqsM
 r_6.2.2.2.2.2.2.2.2 r_8.2.2.2.2.2.2.2.2)))))))) then (chkM s (lenM r_4)).bind fun r_9=>(loopM (fun (s_1:Int×Int×List (Int×Int×Int×Int×Int ×
 Int×Int×List UInt8×List UInt8))=>bif ltM s_1.2.1 (lenM s_1.2.2-s) then ((chkM s_1.2.1 (lenM s_1.2.2-s)).bind fun r_10=>(idxM s_1.2.2 (s +
 s_1.2.1)).bind fun r_11=>(chkM (wrap .i64 (s_1.2.1-1)) (lenM s_1.2.2-s)).bind fun r_12=>(idxM s_1.2.2 (s+wrap .i64 (s_1.2.1 -
 1))).bind fun r_13=>bif PE.notM (PE.andM (eqM r_11.1 r_13.1) (PE.andM (eqM r_11.2.1 r_13.2.1) (PE.andM (eqM r_11.2.2.1 r_13.2.2.1) (PE.andM (eqM
 r_11.2.2.2.1 r_13.2.2.2.1) (PE.andM (eqM r_11.2.2.2.2.1 r_13.2.2.2.2.1) (PE.andM (eqM r_11.2.2.2.2.2.1 r_13.2.2.2.2.2.1) (PE.andM (eqM r_11.2.2.2.2.2.2.1
 r_13.2.2.2.2.2.2.1) (PE.andM (eqsM r_11.2.2.2.2.2.2.2.1 r_13.2.2.2.2.2.2.2.1) (eqsM r_11.2.2.2.2.2.2.2.2 r_13.2.2.2.2.2.2.2.2))))))))) then (chkM s_1.2.1
 (lenM s_1.2.2-s)).bind fun r_14=>(idxM s_1.2.2 (s+s_1.2.1)).bind fun r_15=>(chkM s_1.1 (lenM s_1.2.2)).bind fun r_16=>(setM s_1.2.2 s_1.1 fun (x :
 Int×Int×Int×Int×Int×Int×Int×List UInt8×List UInt8)=>some (r_15.1,r_15.2.1,r_15.2.2.1,r_15.2.2.2.1,r_15.2.2.2.2.1,r_15.2.2.2.2.2.1,
 r_15.2.2.2.2.2.2.1,r_15.2.2.2.2.2.2.2.1,r_15.2.2.2.2.2.2.2.2)).bind fun r=>some (wrap .i64 (s_1.1+1),r) else some (s_1.1,s_1.2.2)).bind fun o
 => some (Sum.inl (o.1,wrap .i64 (s_1.2.1+1),o.2)) else some (Sum.inr (s_1.1,s_1.2.2))) (s,1,r_4)).bind fun o=>(chkM o.1 (lenM o.2)).bind fun
 r_10=>(sliceM (clrM o.2 o.1 (0,0,0,0,0,0,0,[],[])) 0 o.1).bind fun r=>some (Sum.inr (Sum.inr r)) else some (Sum.inl (wrap .i64 (s+1)))
 else some (Sum.inr (Sum.inl ()))) 1).bind fun o=>Sum.elim (fun (t:Unit)=>some r_4) (fun (t:List (Int×Int×Int×Int×Int×Int×Int×List UInt8
 × List UInt8))=>some t) o).bind fun (ov:List (Int×Int×Int×Int×Int×Int×Int×List UInt8×List UInt8))=>bif ltM 40 (lenM ov) then some (390,
 []) else some (0,ov)).bind fun (ov:Int×List (Int×Int×Int×Int×Int×Int×Int×List UInt8×List UInt8))=>some (ov.2,ov.1)
theorem c31:SpecOK Tryz.prog 31 ⟨as31,rs31,m31⟩ :=
 fc (TabOK.drop tabs37OK [77]) [] an31 Tryz.f31 fun x=>by kernel_rfl
def tabs31:Tabs:=Tabs.add tabs37 31 ⟨as31,rs31,m31⟩
theorem tabs31OK:TabOK Tryz.prog tabs31:=TabOK.add tabs37OK c31 Tryz.call31

/-! putlog/archive.Encode -/
def as20:List Ty:=[tR]
def rs20:List Ty:=[.str,tI]
def an20:Ann:=.a
def m20:(Int×Int×Int×Int×Int×Int×Int×List UInt8×List UInt8)→Option (List UInt8×Int) :=
 fun x=>(m61 (x.1,x.2.1,x.2.2.1,x.2.2.2.1,x.2.2.2.2.1,x.2.2.2.2.2.1,x.2.2.2.2.2.2.1,x.2.2.2.2.2.2.2.1,x.2.2.2.2.2.2.2.2)).bind fun r=>bif PE.notM r
 then some ([],390) else (m62 (x.1,x.2.1,x.2.2.1,x.2.2.2.1,x.2.2.2.2.1,x.2.2.2.2.2.1,x.2.2.2.2.2.2.1,x.2.2.2.2.2.2.2.1,x.2.2.2.2.2.2.2.2)).bind fun r
 => some (r,0)
theorem c20:SpecOK Tryz.prog 20 ⟨as20,rs20,m20⟩ :=
 fc tabs31OK [] an20 Tryz.f20 fun x=>by kernel_rfl
def tabs20:Tabs:=Tabs.add tabs31 20 ⟨as20,rs20,m20⟩
theorem tabs20OK:TabOK Tryz.prog tabs20:=TabOK.add tabs31OK c20 Tryz.call20

/-! putlog/archive.Merge -/
def as27:List Ty:=[(.one (.list tR)),(.one (.list tR))]
def rs27:List Ty:=[(.one (.list tR)),tI]
def an27:Ann:=.seq (.a) (.seq (.a) (.seq (.reg [] [] [z0,.s [0] [],z0,.s [1] [],z0,.r,.r,z0,z0,.s [2,5] [2],z0] (.call [] [] (.seq (.a) (.seq (.a) (.seq (.seq (.a) (.block (.loop ⟨[(3,.r (.c (.d (.d tI)))),(11,.r (.c (.d (.d tI))))],(5::ra 12 9 (22::[])),[],[]⟩ [(.exit 0,⟨[(3,.r (.c (.d (.d tI))))],(5::ra 11 10 (22::[])),[],[]⟩)] (.a)))) (.seq (.a) (.seq (.seq (.a) (.block (.loop ⟨[(6,.r (.c (.h 4))),(27,.r (.c (.d (.d tI))))],(8::ra 28 7 ([])),[(3,.gone)],[.arr tR]⟩ [(.exit 2,⟨[(6,.r (.c (.h 4)))],(8::ra 27 8 ([])),[(3,.gone)],[.arr tR]⟩)] (.a)))) (.a)))))) (.call [] [(.norm,⟨[(21,.t [.s [.h 5],.c (.d (.d tI))])],[],[(4,.gone)],[.arr tR]⟩)] (.seq (.a) (.seq (.a) (.seq (.reg [] [] [z0,.r,z0] (.call [2000028,2000056,2000059] [(.norm,⟨[(7,.r (.c (.h 6)))],[],[(4,.gone)],[.arr tR]⟩)] (.seq (.a) (.seq (.a) (.seq (.seq (.a) (.block (.loop ⟨[(3,.r (.c (.d (.d tI))))],(ra 10 16 ([])),[],[]⟩ [(.exit 0,⟨[],(3::ra 10 16 ([])),[],[]⟩),(.ret,⟨[(2,.r (.c (.h 6)))],(3::4::5::ra 10 50 ([])),[(4,.gone)],[.arr tR]⟩)] (.seq (.a) (.seq (.block (.seq (.reg [0,0,3,7,0,0,32,112,240,511] (ra 0 10 ([])) (z0::z0::.s [4] []::.s [4] []::za 3 (.s [4] []::.s [4] []::z0::[])) (.a)) (.cond (.seq (.a) (.seq (.seq (.a) (.block (.loop ⟨[(3,.r (.c (.d (.d tI)))),(5,.r (.c (.d (.d tI))))],(ra 29 25 ([])),[(4,.arr tR)],[]⟩ [(.exit 2,⟨[(3,.r (.c (.d (.d tI))))],(5::ra 29 25 ([])),[(4,.arr tR)],[]⟩)] (.seq (.a) (.seq (.join [(.norm,⟨[(3,.r (.c (.d (.d tI))))],(ra 35 19 ([])),[(4,.arr tR)],[]⟩)] (.block (.seq (.reg [0,0,3,7,0,0,32,112,240,511] (ra 0 10 ([])) (z0::z0::.s [4] []::.s [4] []::za 3 (.s [4] []::.s [4] []::z0::[])) (.a)) (.a)))) (.a)))))) (.a))) (.a)))) (.a)))))) (.a)))) (.a))) (.a)))) (.a)))) (.a)))
def m27:((List (Int×Int×Int×Int×Int×Int×Int×List UInt8×List UInt8))×List (Int×Int×Int×Int×Int×Int×Int×List UInt8×List UInt8))→Option ((List (Int×Int×Int×Int×Int×Int×Int×List UInt8×List UInt8))×Int) :=
 fun x=>(m29 x.1).bind fun r=>(bif PE.notM (PE.notM r) then m29 x.2 else some false).bind fun r_1=>bif PE.orM (PE.notM r) (PE.notM r_1) then some ([],390)
 else (loopM (fun (s:Int×Int)=>bif ltM s.2 (lenM [x.1,x.2]) then (idxM [x.1,x.2] s.2).bind fun r=>bif ltM (wrap .i64 (s.1+lenM r)) 0 then
 none else some (Sum.inl (wrap .i64 (s.1+lenM r),wrap .i64 (s.2+1))) else some (Sum.inr s.1)) (0,0)).bind fun o=>(growM o (0,0,0,0,0,
 0,0,[],[])).bind fun r_2=>(loopM (fun (s:Int×List (Int×Int×Int×Int×Int×Int×Int×List UInt8×List UInt8))=>bif ltM s.1 (lenM [x.1,
 x.2]) then (idxM [x.1,x.2] s.1).bind fun r_3=>(appM (nat_lit 88) s.2 r_3).bind fun r=>some (Sum.inl (wrap .i64 (s.1+1),r)) else some (Sum.inr
 s.2)) (0,r_2)).bind fun o_1=>((sortM (Ty.pair (Ty.int IntKind.i64) (Ty.pair (Ty.int IntKind.i64) (Ty.pair (Ty.int IntKind.i64) (Ty.pair (Ty.int
 IntKind.i64) (Ty.pair (Ty.int IntKind.i64) (Ty.pair (Ty.int IntKind.i64) (Ty.pair (Ty.int IntKind.i64) (Ty.pair Ty.str Ty.str)))))))) cf76 o_1).bind fun r_3
 => (bif ltM (lenM r_3) 2 then some r_3 else (loopM (fun (s:Int)=>bif ltM s (lenM r_3) then (chkM s (lenM r_3)).bind fun r_4=>(idxM r_3 s).bind fun r_5
 => (chkM (wrap .i64 (s-1)) (lenM r_3)).bind fun r_6=>(idxM r_3 (wrap .i64 (s-1))).bind fun r_7=>bif PE.andM (eqM r_5.1 r_7.1) (PE.andM
 (eqM r_5.2.1 r_7.2.1) (PE.andM (eqM r_5.2.2.1 r_7.2.2.1) (PE.andM (eqM r_5.2.2.2.1 r_7.2.2.2.1) (PE.andM (eqM r_5.2.2.2.2.1 r_7.2.2.2.2.1) (PE.andM (eqM
 r_5.2.2.2.2.2.1 r_7.2.2.2.2.2.1) (PE.andM (eqM r_5.2.2.2.2.2.2.1 r_7.2.2.2.2.2.2.1) (PE.andM (eqsM r_5.2.2.2.2.2.2.2.1 r_7.2.2.2.2.2.2.2.1) (eqsM
 r_5.2.2.2.2.2.2.2.2 r_7.2.2.2.2.2.2.2.2)))))))) then (chkM s (lenM r_3)).bind fun r_8=>(loopM (fun (s_1:Int×Int×List (Int×Int×Int×Int×Int ×
 Int×Int×List UInt8×List UInt8))=>bif ltM s_1.2.1 (lenM s_1.2.2-s) then ((chkM s_1.2.1 (lenM s_1.2.2-s)).bind fun r_9=>(idxM s_1.2.2 (s +
 s_1.2.1)).bind fun r_10=>(chkM (wrap .i64 (s_1.2.1-1)) (lenM s_1.2.2-s)).bind fun r_11=>(idxM s_1.2.2 (s+wrap .i64 (s_1.2.1 -
 1))).bind fun r_12=>bif PE.notM (PE.andM (eqM r_10.1 r_12.1) (PE.andM (eqM r_10.2.1 r_12.2.1) (PE.andM (eqM r_10.2.2.1 r_12.2.2.1) (PE.andM (eqM
 r_10.2.2.2.1 r_12.2.2.2.1) (PE.andM (eqM r_10.2.2.2.2.1 r_12.2.2.2.2.1) (PE.andM (eqM r_10.2.2.2.2.2.1 r_12.2.2.2.2.2.1) (PE.andM (eqM r_10.2.2.2.2.2.2.1
 r_12.2.2.2.2.2.2.1) (PE.andM (eqsM r_10.2.2.2.2.2.2.2.1 r_12.2.2.2.2.2.2.2.1) (eqsM r_10.2.2.2.2.2.2.2.2 r_12.2.2.2.2.2.2.2.2))))))))) then (chkM s_1.2.1
 (lenM s_1.2.2-s)).bind fun r_13=>(idxM s_1.2.2 (s+s_1.2.1)).bind fun r_14=>(chkM s_1.1 (lenM s_1.2.2)).bind fun r_15=>(setM s_1.2.2 s_1.1 fun (x :
 Int×Int×Int×Int×Int×Int×Int×List UInt8×List UInt8)=>some (r_14.1,r_14.2.1,r_14.2.2.1,r_14.2.2.2.1,r_14.2.2.2.2.1,r_14.2.2.2.2.2.1,
 r_14.2.2.2.2.2.2.1,r_14.2.2.2.2.2.2.2.1,r_14.2.2.2.2.2.2.2.2)).bind fun r=>some (wrap .i64 (s_1.1+1),r) else some (s_1.1,s_1.2.2)).bind fun o
 => some (Sum.inl (o.1,wrap .i64 (s_1.2.1+1),o.2)) else some (Sum.inr (s_1.1,s_1.2.2))) (s,1,r_3)).bind fun o_2=>(chkM o_2.1 (lenM o_2.2)).bind
 fun r_9=>(sliceM (clrM o_2.2 o_2.1 (0,0,0,0,0,0,0,[],[])) 0 o_2.1).bind fun r=>some (Sum.inr (Sum.inr r)) else some (Sum.inl (wrap .i64 (s
 + 1))) else some (Sum.inr (Sum.inl ()))) 1).bind fun o=>Sum.elim (fun (t:Unit)=>some r_3) (fun (t:List (Int×Int×Int×Int×Int×Int×Int×List
 UInt8×List UInt8))=>some t) o).bind fun (ov:List (Int×Int×Int×Int×Int×Int×Int×List UInt8×List UInt8))=>bif ltM 40 (lenM ov) then some
 (390,[]) else some (0,ov)).bind fun (ov:Int×List (Int×Int×Int×Int×Int×Int×Int×List UInt8×List UInt8))=>some (ov.2,ov.1)
theorem c27:SpecOK Tryz.prog 27 ⟨as27,rs27,m27⟩ :=
 fc (TabOK.drop tabs20OK [72]) [] an27 Tryz.f27 fun x=>by kernel_rfl
def tabs27:Tabs:=Tabs.add tabs20 27 ⟨as27,rs27,m27⟩
theorem tabs27OK:TabOK Tryz.prog tabs27:=TabOK.add tabs20OK c27 Tryz.call27

/-! putlog/archive.Missing -/
def as28:List Ty:=[(.one (.list tR)),(.one (.list tR))]
def rs28:List Ty:=[(.list tR),tI]
def an28:Ann:=.seq (.a) (.seq (.a) (.seq (.reg [] [] [z0,.s [0] [],z0,.r,z0,z0] (.call [] [] (.seq (.a) (.seq (.a) (.seq (.seq (.a) (.block (.loop ⟨[(5,.r (.c (.h 2))),(10,.r (.c (.d (.d tI))))],(7::ra 11 11 ([])),[],[.arr tR]⟩ [(.exit 0,⟨[(5,.r (.c (.h 2)))],(7::ra 10 12 ([])),[],[.arr tR]⟩)] (.seq (.a) (.seq (.a) (.seq (.join [(.norm,⟨[(5,.r (.c (.h 3)))],(7::ra 12 9 ([])),[(2,.gone)],[.arr tR]⟩)] (.block (.seq (.a) (.seq (.reg [] [] [z0,.s [3] [],.r] (.call [] [] (.seq (.a) (.seq (.reg [] [] [z0,.s [1] [],.s [4] [],.r,z0,z0,z0,z0,z0] (.call [] [] (.seq (.a) (.seq (.a) (.seq (.a) (.seq (.block (.loop ⟨[(9,.r (.c (.d (.d tI)))),(10,.r (.c (.d (.d tI))))],(11::ra 15 20 ([])),[],[]⟩ [(.exit 0,⟨[(9,.r (.c (.d (.d tI))))],(10::11::ra 15 20 ([])),[],[]⟩)] (.seq (.a) (.block (.seq (.a) (.seq (.reg [0,0,0,6,14,0,63,127] (ra 0 8 ([])) (za 5 (.s [5] []::z0::z0::[])) (.a)) (.a))))))) (.seq (.reg [0,0,0,6,14,30,30,30,222,478,30,2046,4094,8190,4095,32767] (ra 0 16 ([])) (za 10 (.s [5] []::za 5 ([]))) (.a)) (.a)))))) (.a))) (.a))) (.a))) (.a))))) (.a))))))) (.a)))) (.a))) (.a)))
def m28:((List (Int×Int×Int×Int×Int×Int×Int×List UInt8×List UInt8))×List (Int×Int×Int×Int×Int×Int×Int×List UInt8×List UInt8))→Option ((List (Int×Int×Int×Int×Int×Int×Int×List UInt8×List UInt8))×Int) :=
 fun x=>(m29 x.1).bind fun r=>(bif PE.notM (PE.notM r) then m29 x.2 else some false).bind fun r_1=>bif PE.orM (PE.notM r) (PE.notM r_1) then some ([],390)
 else (loopM (fun (s:Int×List (Int×Int×Int×Int×Int×Int×Int×List UInt8×List UInt8))=>bif ltM s.1 (lenM x.1) then ((idxM x.1 s.1).bind fun
 r_2=>(loopM (fun (s_1:Int×Int)=>bif ltM s_1.1 s_1.2 then (shrM .u64 (wrap .u64 (wrap .i64 (s_1.1+s_1.2))) 1).bind fun r_3 =>
 (idxM x.2 (wrap .i64 r_3)).bind fun r_4=>(m76 ((r_4.1,r_4.2.1,r_4.2.2.1,r_4.2.2.2.1,r_4.2.2.2.2.1,r_4.2.2.2.2.2.1,r_4.2.2.2.2.2.2.1,
 r_4.2.2.2.2.2.2.2.1,r_4.2.2.2.2.2.2.2.2),r_2.1,r_2.2.1,r_2.2.2.1,r_2.2.2.2.1,r_2.2.2.2.2.1,r_2.2.2.2.2.2.1,r_2.2.2.2.2.2.2.1,r_2.2.2.2.2.2.2.2.1,
 r_2.2.2.2.2.2.2.2.2)).bind fun r=>bif ltM r 0 then some (Sum.inl (wrap .i64 (wrap .i64 r_3+1),s_1.2)) else some (Sum.inl (s_1.1,wrap
 IntKind.i64 r_3)) else some (Sum.inr s_1.1)) (0,lenM x.2)).bind fun o=>(bif ltM o (lenM x.2) then idxM x.2 o else some (0,0,0,0,0,0,0,[],[])).bind
 fun r_3=>(bif ltM o (lenM x.2) then m76 ((r_3.1,r_3.2.1,r_3.2.2.1,r_3.2.2.2.1,r_3.2.2.2.2.1,r_3.2.2.2.2.2.1,r_3.2.2.2.2.2.2.1,r_3.2.2.2.2.2.2.2.1,
 r_3.2.2.2.2.2.2.2.2),r_2.1,r_2.2.1,r_2.2.2.1,r_2.2.2.2.1,r_2.2.2.2.2.1,r_2.2.2.2.2.2.1,r_2.2.2.2.2.2.2.1,r_2.2.2.2.2.2.2.2.1,r_2.2.2.2.2.2.2.2.2)
 else some 0).bind fun r_4=>bif PE.notM (PE.andM (ltM o (lenM x.2)) (eqM r_4 0)) then (appM (nat_lit 88) s.2 [(r_2.1,r_2.2.1,r_2.2.2.1,r_2.2.2.2.1,
 r_2.2.2.2.2.1,r_2.2.2.2.2.2.1,r_2.2.2.2.2.2.2.1,r_2.2.2.2.2.2.2.2.1,r_2.2.2.2.2.2.2.2.2)]).bind fun r=>some r else some s.2).bind fun o=>some (Sum.inl
 (wrap .i64 (s.1+1),o)) else some (Sum.inr s.2)) (0,[])).bind fun o=>some (o,0)
theorem c28:SpecOK Tryz.prog 28 ⟨as28,rs28,m28⟩ :=
 fc tabs27OK [] an28 Tryz.f28 fun x=>by kernel_rfl
def tabs28:Tabs:=Tabs.add tabs27 28 ⟨as28,rs28,m28⟩
theorem tabs28OK:TabOK Tryz.prog tabs28:=TabOK.add tabs27OK c28 Tryz.call28
end
noncomputable section

/-! putlog/wire.Int -/
def as105:List Ty:=[.str,tI]
def rs105:List Ty:=[tI,tI,tI]
def an105:Ann:=.seq (.a) (.seq (.a) (.seq (.a) (.seq (.seq (.a) (.block (.loop ⟨[(7,.r (.c (.d (.d (.int .u64))))),(19,.r (.c (.d (.d tI))))],(8::9::ra 20 23 (66::[])),[],[]⟩ [(.exit 0,⟨[],(7::8::9::10::ra 19 42 (66::[])),[],[]⟩),(.ret,⟨[(4,.r (.c (.d (.d tI)))),(5,.r (.c (.d (.d tI)))),(6,.r (.c (.d (.d tI))))],(7::8::9::10::ra 19 48 ([])),[],[]⟩)] (.a)))) (.a))))
def m105:(List UInt8×Int)→Option (Int×Int×Int) :=
 fun x=>bif PE.orM (ltM x.2 0) (ltM (lenM x.1) x.2) then some (0,0,2) else (loopM (fun (s:Int×Int)=>bif ltM s.2 9 then bif leM (lenM x.1) (wrap
 IntKind.i64 (x.2+s.2)) then some (Sum.inr (Sum.inl ())) else (byteM x.1 (wrap .i64 (x.2+s.2))).bind fun r=>(shlM .u64 (wrap IntKind.u64
 (bitM BinOp.and .u8 r 127)) (wrap .i64 (7*s.2))).bind fun r_1=>bif leM 128 r then some (Sum.inl (bitM BinOp.or .u64 s.1 r_1,wrap
 IntKind.i64 (s.2+1))) else (shrM .u64 (bitM BinOp.or .u64 s.1 r_1) 1).bind fun r_2=>bif PE.orM (PE.andM (eqM r 0) (ltM 0 s.2)) (ltM (bitM
 BinOp.xor IntKind.i64 (wrap .i64 r_2) (wrap .i64 (negM (wrap .i64 (bitM BinOp.and .u64 (bitM BinOp.or .u64 s.1 r_1) 1)))))
 (-4611686018427387903)) then some (Sum.inr (Sum.inl ())) else some (Sum.inr (Sum.inr (bitM BinOp.xor .i64 (wrap .i64 r_2) (wrap IntKind.i64
 (negM (wrap .i64 (bitM BinOp.and .u64 (bitM BinOp.or .u64 s.1 r_1) 1)))),wrap .i64 (wrap .i64 (x.2+s.2)+1),0))) else
 some (Sum.inr (Sum.inl ()))) (0,0)).bind fun o=>Sum.elim (fun (t:Unit)=>some (0,0,10)) (fun (t:Int×Int×Int)=>some (t.1,t.2.1,t.2.2)) o
theorem c105:SpecOK Tryz.prog 105 ⟨as105,rs105,m105⟩ :=
 fc tabs28OK [] an105 Tryz.f105 fun x=>by kernel_rfl
def tabs105:Tabs:=Tabs.add tabs28 105 ⟨as105,rs105,m105⟩
theorem tabs105OK:TabOK Tryz.prog tabs105:=TabOK.add tabs28OK c105 Tryz.call105

/-! putlog/wire.String -/
def as107:List Ty:=[.str,tI]
def rs107:List Ty:=[.str,tI,tI]
def an107:Ann:=.a
def m107:(List UInt8×Int)→Option (List UInt8×Int×Int) :=
 fun x=>(m105 (x.1,x.2)).bind fun r=>bif PE.notM (eqM r.2.2 0) then some ([],0,r.2.2) else bif PE.orM (PE.orM (ltM r.1 0) (ltM 65536 r.1)) (ltM (wrap
 IntKind.i64 (lenM x.1-r.2.1)) r.1) then some ([],0,10) else (sliceM x.1 r.2.1 (wrap .i64 (r.2.1+r.1))).bind fun r_1=>some (r_1,wrap
 IntKind.i64 (r.2.1+r.1),0)
theorem c107:SpecOK Tryz.prog 107 ⟨as107,rs107,m107⟩ :=
 fc tabs105OK [] an107 Tryz.f107 fun x=>by kernel_rfl
def tabs107:Tabs:=Tabs.add tabs105 107 ⟨as107,rs107,m107⟩
theorem tabs107OK:TabOK Tryz.prog tabs107:=TabOK.add tabs105OK c107 Tryz.call107

/-! putlog/archive.Decode -/
def as22:List Ty:=[.str]
def rs22:List Ty:=[tR,tI]
def an22_1:Ann:=.call [] [] (.seq (.a) (.seq (.reg [0,1,3,7,0,16,48,112,255,511,1023,1023,1023,2047,12287,32767] (ra 0 16 ([])) (za 3 (.s [2] []::za 3 (.s [2] []::za 8 ([])))) (.a)) (.seq (.reg [] [] [z0,z0,z0,.r] (.call [] [] (.seq (.a) (.a)) (.a))) (.a)))) (.a)
def an22_0:Ann:=.seq (.a) (.seq (.a) (.seq (.block (.seq (.a) (.reg [] [] [z0,z0,.r,z0,.s [0] [0]] an22_1))) (.a)))
def an22:Ann:=.seq (.a) (.seq (.seq (.a) (.block (.seq an22_0 (.seq an22_0 (.seq an22_0 (.seq an22_0 (.seq an22_0 (.seq an22_0 (.seq an22_0 (.seq (.a) (.join [] (.a)))))))))))) (.seq (.reg [] [] [z0,.r,z0,.s [0] [0]] an22_1) (.seq (.reg [] [] [z0,.r,z0,.s [0] [0]] an22_1) (.a))))
def m22:List UInt8→Option ((Int×Int×Int×Int×Int×Int×Int×List UInt8×List UInt8)×Int) :=
 fun x=>(m105 (x,0)).bind fun r=>bif PE.notM (eqM r.2.2 0) then some ((0,0,0,0,0,0,0,[],[]),390) else (m105 (x,r.2.1)).bind fun r_1=>bif PE.notM
 (eqM r_1.2.2 0) then some ((0,0,0,0,0,0,0,[],[]),390) else (m105 (x,r_1.2.1)).bind fun r_2=>bif PE.notM (eqM r_2.2.2 0) then some ((0,0,0,0,0,
 0,0,[],[]),390) else (m105 (x,r_2.2.1)).bind fun r_3=>bif PE.notM (eqM r_3.2.2 0) then some ((0,0,0,0,0,0,0,[],[]),390) else (m105 (x,
 r_3.2.1)).bind fun r_4=>bif PE.notM (eqM r_4.2.2 0) then some ((0,0,0,0,0,0,0,[],[]),390) else (m105 (x,r_4.2.1)).bind fun r_5=>bif PE.notM (eqM
 r_5.2.2 0) then some ((0,0,0,0,0,0,0,[],[]),390) else (m105 (x,r_5.2.1)).bind fun r_6=>bif PE.notM (eqM r_6.2.2 0) then some ((0,0,0,0,0,0,
 0,[],[]),390) else (m107 (x,r_6.2.1)).bind fun r_7=>bif PE.notM (eqM r_7.2.2 0) then some ((0,0,0,0,0,0,0,[],[]),390) else (m107 (x,
 r_7.2.1)).bind fun r_8=>bif PE.notM (eqM r_8.2.2 0) then some ((0,0,0,0,0,0,0,[],[]),390) else (bif PE.notM (PE.notM (eqM r_8.2.1 (lenM x))) then
 m61 (r.1,r_1.1,r_2.1,r_3.1,r_4.1,r_5.1,r_6.1,r_7.1,r_8.1) else some false).bind fun r_9=>bif PE.orM (PE.notM (eqM r_8.2.1 (lenM x))) (PE.notM r_9)
 then some ((0,0,0,0,0,0,0,[],[]),390) else some ((r.1,r_1.1,r_2.1,r_3.1,r_4.1,r_5.1,r_6.1,r_7.1,r_8.1),0)
theorem c22:SpecOK Tryz.prog 22 ⟨as22,rs22,m22⟩ :=
 fnD_ok (own:=[]) (a0:=.a) (a1:=an22) (aN:=.a) (aP:=.a) (n:=400) tabs107OK (F:=OPS) OPS_sound OPS_nice (fn:=Tryz.f22) (fg:=Tryz.f65) (s2:=2) (s3:=3) (sf:=7) (sa:=2) (by kernel_rfl) rfl (by kernel_rfl) rfl rfl rfl rfl rfl rfl (by kernel_rfl) (by kernel_rfl) rfl rfl rfl rfl rfl rfl rfl rfl (by kernel_rfl) fun x=>by kernel_rfl
def tabs22:Tabs:=Tabs.add tabs107 22 ⟨as22,rs22,m22⟩
theorem tabs22OK:TabOK Tryz.prog tabs22:=TabOK.add tabs107OK c22 Tryz.call22

/-! putlog/archive.Load -/
def as24:List Ty:=[(.list .str)]
def rs24:List Ty:=[(.one (.list tR)),tI]
def an24:Ann:=.seq (.a) (.seq (.a) (.seq (.seq (.a) (.block (.loop ⟨[(4,.r (.c (.h 1))),(11,.r (.c (.d (.d tI))))],(6::7::8::ra 12 15 ([])),[],[.arr tR]⟩ [(.exit 0,⟨[(4,.r (.c (.h 1)))],(6::7::8::ra 11 16 ([])),[],[.arr tR]⟩)] (.seq (.a) (.seq (.a) (.seq (.join [(.norm,⟨[(4,.r (.c (.h 2)))],(6::7::8::ra 13 13 ([])),[(1,.gone)],[.arr tR]⟩)] (.a)) (.a))))))) (.seq (.reg [] [] [z0,.r,z0,z0,.s [0,2] [0],z0] (.call [] [(.norm,⟨[(28,.t [.s [.h 2],.c (.d (.d tI))])],[],[(1,.gone)],[.arr tR]⟩)] (.seq (.a) (.seq (.a) (.seq (.reg [] [] [z0,.r,z0] (.call [2000028,2000056,2000059] [(.norm,⟨[(7,.r (.c (.h 3)))],[],[(1,.gone)],[.arr tR]⟩)] (.seq (.a) (.seq (.a) (.seq (.seq (.a) (.block (.loop ⟨[(3,.r (.c (.d (.d tI))))],(ra 10 16 ([])),[],[]⟩ [(.exit 0,⟨[],(3::ra 10 16 ([])),[],[]⟩),(.ret,⟨[(2,.r (.c (.h 3)))],(3::4::5::ra 10 50 ([])),[(1,.gone)],[.arr tR]⟩)] (.seq (.a) (.seq (.block (.seq (.reg [0,0,3,7,0,0,32,112,240,511] (ra 0 10 ([])) (z0::z0::.s [1] []::.s [1] []::za 3 (.s [1] []::.s [1] []::z0::[])) (.a)) (.cond (.seq (.a) (.seq (.seq (.a) (.block (.loop ⟨[(3,.r (.c (.d (.d tI)))),(5,.r (.c (.d (.d tI))))],(ra 29 25 ([])),[(1,.arr tR)],[]⟩ [(.exit 2,⟨[(3,.r (.c (.d (.d tI))))],(5::ra 29 25 ([])),[(1,.arr tR)],[]⟩)] (.seq (.a) (.seq (.join [(.norm,⟨[(3,.r (.c (.d (.d tI))))],(ra 35 19 ([])),[(1,.arr tR)],[]⟩)] (.block (.seq (.reg [0,0,3,7,0,0,32,112,240,511] (ra 0 10 ([])) (z0::z0::.s [1] []::.s [1] []::za 3 (.s [1] []::.s [1] []::z0::[])) (.a)) (.a)))) (.a)))))) (.a))) (.a)))) (.a)))))) (.a)))) (.a))) (.a)))) (.a))) (.a))))
def m24:List (List UInt8)→Option ((List (Int×Int×Int×Int×Int×Int×Int×List UInt8×List UInt8))×Int) :=
 fun x=>(loopM (fun (s:Int×List (Int×Int×Int×Int×Int×Int×Int×List UInt8×List UInt8))=>bif ltM s.1 (lenM x) then ((idxM x s.1).bind fun r
 => (m22 r).bind fun r_1=>bif eqM r_1.2 0 then (appM (nat_lit 88) s.2 [(r_1.1.1,r_1.1.2.1,r_1.1.2.2.1,r_1.1.2.2.2.1,r_1.1.2.2.2.2.1,r_1.1.2.2.2.2.2.1,
 r_1.1.2.2.2.2.2.2.1,r_1.1.2.2.2.2.2.2.2.1,r_1.1.2.2.2.2.2.2.2.2)]).bind fun r=>some r else some s.2).bind fun o=>some (Sum.inl (wrap .i64 (s.1 +
 1),o)) else some (Sum.inr s.2)) (0,[])).bind fun o=>((sortM (Ty.pair (Ty.int IntKind.i64) (Ty.pair (Ty.int IntKind.i64) (Ty.pair (Ty.int IntKind.i64)
 (Ty.pair (Ty.int IntKind.i64) (Ty.pair (Ty.int IntKind.i64) (Ty.pair (Ty.int IntKind.i64) (Ty.pair (Ty.int IntKind.i64) (Ty.pair Ty.str Ty.str)))))))) cf76
 o).bind fun r=>(bif ltM (lenM r) 2 then some r else (loopM (fun (s:Int)=>bif ltM s (lenM r) then (chkM s (lenM r)).bind fun r_1=>(idxM r s).bind fun
 r_2=>(chkM (wrap .i64 (s-1)) (lenM r)).bind fun r_3=>(idxM r (wrap .i64 (s-1))).bind fun r_4=>bif PE.andM (eqM r_2.1 r_4.1) (PE.andM
 (eqM r_2.2.1 r_4.2.1) (PE.andM (eqM r_2.2.2.1 r_4.2.2.1) (PE.andM (eqM r_2.2.2.2.1 r_4.2.2.2.1) (PE.andM (eqM r_2.2.2.2.2.1 r_4.2.2.2.2.1) (PE.andM (eqM
 r_2.2.2.2.2.2.1 r_4.2.2.2.2.2.1) (PE.andM (eqM r_2.2.2.2.2.2.2.1 r_4.2.2.2.2.2.2.1) (PE.andM (eqsM r_2.2.2.2.2.2.2.2.1 r_4.2.2.2.2.2.2.2.1) (eqsM
 r_2.2.2.2.2.2.2.2.2 r_4.2.2.2.2.2.2.2.2)))))))) then (chkM s (lenM r)).bind fun r_5=>(loopM (fun (s_1:Int×Int×List (Int×Int×Int×Int×Int×Int
 × Int×List UInt8×List UInt8))=>bif ltM s_1.2.1 (lenM s_1.2.2-s) then ((chkM s_1.2.1 (lenM s_1.2.2-s)).bind fun r_6=>(idxM s_1.2.2 (s +
 s_1.2.1)).bind fun r_7=>(chkM (wrap .i64 (s_1.2.1-1)) (lenM s_1.2.2-s)).bind fun r_8=>(idxM s_1.2.2 (s+wrap .i64 (s_1.2.1-1))).bind
 fun r_9=>bif PE.notM (PE.andM (eqM r_7.1 r_9.1) (PE.andM (eqM r_7.2.1 r_9.2.1) (PE.andM (eqM r_7.2.2.1 r_9.2.2.1) (PE.andM (eqM r_7.2.2.2.1 r_9.2.2.2.1)
 (PE.andM (eqM r_7.2.2.2.2.1 r_9.2.2.2.2.1) (PE.andM (eqM r_7.2.2.2.2.2.1 r_9.2.2.2.2.2.1) (PE.andM (eqM r_7.2.2.2.2.2.2.1 r_9.2.2.2.2.2.2.1) (PE.andM (eqsM
 r_7.2.2.2.2.2.2.2.1 r_9.2.2.2.2.2.2.2.1) (eqsM r_7.2.2.2.2.2.2.2.2 r_9.2.2.2.2.2.2.2.2))))))))) then (chkM s_1.2.1 (lenM s_1.2.2-s)).bind fun r_10=>(idxM
 s_1.2.2 (s+s_1.2.1)).bind fun r_11=>(chkM s_1.1 (lenM s_1.2.2)).bind fun r_12=>(setM s_1.2.2 s_1.1 fun (x:Int×Int×Int×Int×Int×Int×Int ×
 List UInt8×List UInt8)=>some (r_11.1,r_11.2.1,r_11.2.2.1,r_11.2.2.2.1,r_11.2.2.2.2.1,r_11.2.2.2.2.2.1,r_11.2.2.2.2.2.2.1,r_11.2.2.2.2.2.2.2.1,
 r_11.2.2.2.2.2.2.2.2)).bind fun r=>some (wrap .i64 (s_1.1+1),r) else some (s_1.1,s_1.2.2)).bind fun o=>some (Sum.inl (o.1,wrap IntKind.i64
 (s_1.2.1+1),o.2)) else some (Sum.inr (s_1.1,s_1.2.2))) (s,1,r)).bind fun o_1=>(chkM o_1.1 (lenM o_1.2)).bind fun r_6=>(sliceM (clrM o_1.2 o_1.1 (0,
 0,0,0,0,0,0,[],[])) 0 o_1.1).bind fun r=>some (Sum.inr (Sum.inr r)) else some (Sum.inl (wrap .i64 (s+1))) else some (Sum.inr (Sum.inl ())))
 1).bind fun o=>Sum.elim (fun (t:Unit)=>some r) (fun (t:List (Int×Int×Int×Int×Int×Int×Int×List UInt8×List UInt8))=>some t) o).bind
 fun (ov:List (Int×Int×Int×Int×Int×Int×Int×List UInt8×List UInt8))=>bif ltM 40 (lenM ov) then some (390,[]) else some (0,ov)).bind fun
 (ov:Int×List (Int×Int×Int×Int×Int×Int×Int×List UInt8×List UInt8))=>some (ov.2,ov.1)
theorem c24:SpecOK Tryz.prog 24 ⟨as24,rs24,m24⟩ :=
 fc tabs22OK [] an24 Tryz.f24 fun x=>by kernel_rfl
def tabs24:Tabs:=Tabs.add tabs22 24 ⟨as24,rs24,m24⟩
theorem tabs24OK:TabOK Tryz.prog tabs24:=TabOK.add tabs22OK c24 Tryz.call24

/-! putlog/digest.Root -/
def as78:List Ty:=[(.list .str)]
def rs78:List Ty:=[.str]
def an78:Ann:=.seq (.a) (.seq (.a) (.seq (.a) (.seq (.seq (.a) (.block (.loop ⟨[(3,.r (.c (.h 0))),(4,.r (.c (.h 1))),(13,.r (.c (.d (.d tI))))],(6::7::ra 14 60 ([])),[],[.arr .str,.arr tI]⟩ [(.exit 0,⟨[(3,.r (.c (.h 0)))],(4::6::7::ra 13 61 ([])),[],[.arr .str]⟩)] (.seq (.a) (.seq (.a) (.seq (.block (.seq (.a) (.seq (.a) (.seq (.a) (.block (.loop ⟨[(3,.r (.c (.h 4))),(4,.r (.c (.h 5))),(7,.r (.c (.d (.d tI))))],(ra 27 46 ([])),[(2,.gone),(3,.gone)],[.arr .str,.arr tI]⟩ [(.exit 2,⟨[(3,.r (.c (.h 4))),(4,.r (.c (.h 5)))],(7::ra 27 46 ([])),[(2,.gone),(3,.gone)],[.arr .str,.arr tI]⟩)] (.seq (.seq (.reg [0,1,3,7,7,23,63,127,7,7,519,1799,3847,8191,16383] (ra 0 15 ([])) (za 6 (.s [5] []::.s [5] []::za 3 (.s [5] []::.s [5] []::z0::z0::[]))) (.a)) (.a)) (.seq (.block (.seq (.reg [0,0,2,7,0,0,32,112,240,0,0,1024,3584,7680,16368,32752,65535,131071] (ra 0 18 ([])) (za 3 (.s [4] []::za 3 (.s [4] []::.s [4] []::za 3 (.s [4] []::.s [4] []::z0::z0::.s [4] [6,4]::z0::[])))) (.a)) (.reg [0,0,2,7,0,0,32,112,240,496,1008,2047,4095] (ra 0 13 ([])) (za 3 (.s [5] []::za 3 (.s [5] []::.s [5] []::z0::z0::.s [5] [7,5]::z0::[]))) (.a)))) (.a))))))))) (.a))))))) (.seq (.a) (.seq (.a) (.seq (.seq (.reg [] [] [z0,z0,.s [0] [],z0,.s [0] [0],.r] (.call [] [] (.seq (.a) (.a)) (.a))) (.block (.call [] [] (.seq (.a) (.block (.loop ⟨[(3,.r (.c (.d (.d tI))))],(ra 7 12 ([])),[(1,.box [.d (.d .str)]),(3,.lp .ready)],[]⟩ [(.exit 0,⟨[],(3::ra 7 12 ([])),[(1,.box [.d (.d .str)]),(3,.lp .ready)],[]⟩)] (.seq (.a) (.seq (.block (.seq (.reg [] [] [z0,z0,.s [2] [],z0,z0,z0,.r,z0] (.call [] [] (.seq (.a) (.a)) (.a))) (.a))) (.a)))))) (.a)))) (.a)))))))
def m78:List (List UInt8)→Option (List UInt8) :=
 fun x=>(loopM (fun (s:Int×List (List UInt8)×List Int)=>bif ltM s.1 (lenM x) then (idxM x s.1).bind fun r=>(m42 r).bind fun r_1=>(appM (nat_lit 16)
 s.2.1 [r_1]).bind fun r_2=>(appM (nat_lit 8) s.2.2 [1]).bind fun r_3=>(loopM (fun (s_1:Int×List (List UInt8)×List Int)=>(bif ltM 1 s_1.1 then chkM
 (wrap .i64 (s_1.1-2)) (lenM s_1.2.2) else some ()).bind fun r_4=>(bif ltM 1 s_1.1 then idxM s_1.2.2 (wrap .i64 (s_1.1-2)) else some
 0).bind fun r_5=>(bif ltM 1 s_1.1 then chkM (wrap .i64 (s_1.1-1)) (lenM s_1.2.2) else some ()).bind fun r_6=>(bif ltM 1 s_1.1 then idxM s_1.2.2
 (wrap .i64 (s_1.1-1)) else some 0).bind fun r_7=>bif PE.andM (ltM 1 s_1.1) (eqM r_5 r_7) then (chkM (wrap .i64 (s_1.1-2)) (lenM s_1.2.1 +
 1)).bind fun r_8=>(chkM (wrap .i64 (s_1.1-2)) (lenM s_1.2.1)).bind fun r_9=>(idxM s_1.2.1 (wrap .i64 (s_1.1-2))).bind fun r_10=>(chkM
 (wrap .i64 (s_1.1-1)) (lenM s_1.2.1)).bind fun r_11=>(idxM s_1.2.1 (wrap .i64 (s_1.1-1))).bind fun r_12=>(m111 (r_10,r_12)).bind fun
 r_13=>((sliceM s_1.2.1 0 (wrap .i64 (s_1.1-2))).bind fun (zs:List (List UInt8))=>appM (nat_lit 16) zs [r_13]).bind fun r_14=>(chkM (wrap
 IntKind.i64 (s_1.1-2)) (lenM s_1.2.2+1)).bind fun r_15=>(chkM (wrap .i64 (s_1.1-1)) (lenM s_1.2.2)).bind fun r_16=>(idxM s_1.2.2 (wrap
 IntKind.i64 (s_1.1-1))).bind fun r_17=>((sliceM s_1.2.2 0 (wrap .i64 (s_1.1-2))).bind fun (zs:List Int)=>appM (nat_lit 8) zs [wrap
 IntKind.i64 (2*r_17)]).bind fun r=>some (Sum.inl (wrap .i64 (s_1.1-1),r_14,r)) else some (Sum.inr (s_1.2.1,s_1.2.2))) (lenM r_3,r_2,
 r_3)).bind fun o=>some (Sum.inl (wrap .i64 (s.1+1),o.1,o.2)) else some (Sum.inr s.2.1)) (0,[],[])).bind fun o=>bif eqM (lenM o) 0 then (m112
 []).bind fun r=>some r else (chkM (wrap .i64 (lenM o-1)) (lenM o)).bind fun r=>(idxM o (wrap .i64 (lenM o-1))).bind fun r_1=>(sliceM o
 0 (wrap .i64 (lenM o-1))).bind fun r_2=>(loopM (fun (s:Int×List UInt8)=>bif leM 0 s.1 then (idxM r_2 s.1).bind fun r_3=>(m111 (r_3,
 s.2)).bind fun r=>some (Sum.inl (wrap .i64 (s.1-1),r)) else some (Sum.inr s.2)) (wrap .i64 (lenM r_2-1),r_1)).bind fun o=>some o
theorem c78:SpecOK Tryz.prog 78 ⟨as78,rs78,m78⟩ :=
 fc tabs24OK [4000047,4000064] an78 Tryz.f78 fun x=>by kernel_rfl
def tabs78:Tabs:=Tabs.add tabs24 78 ⟨as78,rs78,m78⟩
theorem tabs78OK:TabOK Tryz.prog tabs78:=TabOK.add tabs24OK c78 Tryz.call78

/-! putlog/archive.Head -/
def as32:List Ty:=[(.one (.list tR))]
def rs32:List Ty:=[.str,tI]
def an32:Ann:=.seq (.a) (.seq (.a) (.seq (.a) (.seq (.seq (.a) (.block (.loop ⟨[(4,.r (.c (.h 1))),(13,.r (.c (.d (.d tI))))],(6::ra 14 9 ([])),[],[.arr .str]⟩ [(.exit 0,⟨[(4,.r (.c (.h 1)))],(6::ra 13 10 ([])),[],[.arr .str]⟩)] (.a)))) (.a))))
def m32:(List (Int×Int×Int×Int×Int×Int×Int×List UInt8×List UInt8))→Option (List UInt8×Int) :=
 fun x=>(m29 x).bind fun r=>bif PE.notM r then some ([],390) else (loopM (fun (s:Int×List (List UInt8))=>bif ltM s.1 (lenM x) then (idxM x s.1).bind
 fun r_1=>(m62 (r_1.1,r_1.2.1,r_1.2.2.1,r_1.2.2.2.1,r_1.2.2.2.2.1,r_1.2.2.2.2.2.1,r_1.2.2.2.2.2.2.1,r_1.2.2.2.2.2.2.2.1,r_1.2.2.2.2.2.2.2.2)).bind
 fun r_2=>(appM (nat_lit 16) s.2 [r_2]).bind fun r=>some (Sum.inl (wrap .i64 (s.1+1),r)) else some (Sum.inr s.2)) (0,[])).bind fun o=>(m78
 o).bind fun r=>some (r,0)
theorem c32:SpecOK Tryz.prog 32 ⟨as32,rs32,m32⟩ :=
 fc tabs78OK [] an32 Tryz.f32 fun x=>by kernel_rfl
def tabs32:Tabs:=Tabs.add tabs78 32 ⟨as32,rs32,m32⟩
theorem tabs32OK:TabOK Tryz.prog tabs32:=TabOK.add tabs78OK c32 Tryz.call32

/-! putlog/archive.Current -/
def as33:List Ty:=[(.one (.list tR))]
def rs33:List Ty:=[(.list tR)]
def an33:Ann:=.seq (.a) (.seq (.a) (.seq (.a) (.seq (.seq (.a) (.block (.loop ⟨[(14,.r (.c (.d (.d tI))))],(4::5::6::7::8::ra 15 13 (56::[])),[(1,.box [.h 2])],[.arr tR]⟩ [(.exit 0,⟨[],(4::5::6::7::8::ra 14 14 (56::[])),[(1,.box [.h 2])],[.arr tR]⟩)] (.seq (.a) (.seq (.a) (.seq (.block (.seq (.a) (.seq (.a) (.seq (.a) (.seq (.a) (.seq (.reg [] [] [z0,.r] (.call [] [] (.seq (.a) (.a)) (.a))) (.block (.call [] [] (.seq (.a) (.block (.loop ⟨[(3,.r (.c (.d (.d tI))))],(ra 7 12 ([])),[(1,.box [.h 8]),(2,.gone),(3,.arr .bool),(5,.flat 100 .bool),(7,.lp .ready)],[.arr tR]⟩ [(.exit 0,⟨[],(3::ra 7 12 ([])),[(1,.box [.h 8]),(2,.gone),(3,.arr .bool),(5,.flat 100 .bool),(7,.lp .ready)],[.arr tR]⟩)] (.seq (.a) (.seq (.block (.seq (.reg [] [] [z0,z0,.s [6] [],z0,z0,z0,.r,z0] (.call [] [] (.seq (.a) (.join [(.norm,⟨[],(ra 30 26 ([])),[(1,.box [.h 10]),(3,.arr .bool),(5,.flat 100 .bool),(8,.gone)],[.arr tR]⟩)] (.a))) (.a))) (.a))) (.a)))))) (.a))))))))) (.a))))))) (.a))))
def m33:(List (Int×Int×Int×Int×Int×Int×Int×List UInt8×List UInt8))→Option (List (Int×Int×Int×Int×Int×Int×Int×List UInt8×List UInt8)) :=
 fun x=>(m29 x).bind fun r=>bif PE.notM r then some [] else (loopM (fun (s:Int×List (Int×Int×Int×Int×Int×Int×Int×List UInt8×List UInt8))
 => bif ltM s.1 8 then (m79 (x,s.1)).bind fun r_1=>(mkM (lenM r_1.1) (lenM r_1.1) (nat_lit 1) false).bind fun r_2=>(loopM (fun (s_1:Int×List Bool ×
 List Bool×List (Int×Int×Int×Int×Int×Int×Int×List UInt8×List UInt8))=>bif leM 0 s_1.1 then (idxM r_1.1 s_1.1).bind fun r_3=>((chkM s_1.1
 (lenM s_1.2.1)).bind fun r_4=>(idxM s_1.2.1 s_1.1).bind fun r_5=>bif r_5 then some (s_1.2.1,s_1.2.2.1,s_1.2.2.2) else bif eqM r_3.2.2.2.1 2 then (chkM
 r_3.2.2.2.2.2.2.1 (lenM s_1.2.1)).bind fun r_6=>(setM s_1.2.1 r_3.2.2.2.2.2.2.1 fun (x:Bool)=>some true).bind fun r=>some (r,s_1.2.2.1,s_1.2.2.2)
 else (chkM r_3.2.2.2.2.1 ↑(nat_lit 100)).bind fun r_6=>(idxM s_1.2.2.1 (↑(nat_lit 0)+r_3.2.2.2.2.1*↑(nat_lit 1))).bind fun r_7=>bif PE.notM r_7 then
 (chkM r_3.2.2.2.2.1 ↑(nat_lit 100)).bind fun r_8=>(setM s_1.2.2.1 (↑(nat_lit 0)+r_3.2.2.2.2.1*↑(nat_lit 1)) fun (x:Bool)=>some true).bind fun r_9 =>
 (appM (nat_lit 88) s_1.2.2.2 [(r_3.1,r_3.2.1,r_3.2.2.1,r_3.2.2.2.1,r_3.2.2.2.2.1,r_3.2.2.2.2.2.1,r_3.2.2.2.2.2.2.1,r_3.2.2.2.2.2.2.2.1,
 r_3.2.2.2.2.2.2.2.2)]).bind fun r=>some (s_1.2.1,r_9,r) else some (s_1.2.1,s_1.2.2.1,s_1.2.2.2)).bind fun o=>some (Sum.inl (wrap .i64 (s_1.1 -
 1),o.1,o.2.1,o.2.2)) else some (Sum.inr (s_1.2.1,s_1.2.2.1,s_1.2.2.2))) (wrap .i64 (lenM r_1.1-1),r_2,[false,false,false,false,false,
 false,false,false,false,false,false,false,false,false,false,false,false,false,false,false,false,false,false,false,false,false,false,
 false,false,false,false,false,false,false,false,false,false,false,false,false,false,false,false,false,false,false,false,false,false,
 false,false,false,false,false,false,false,false,false,false,false,false,false,false,false,false,false,false,false,false,false,false,
 false,false,false,false,false,false,false,false,false,false,false,false,false,false,false,false,false,false,false,false,false,false,
 false,false,false,false,false,false,false],s.2)).bind fun o=>some (Sum.inl (wrap .i64 (s.1+1),o.2.2)) else some (Sum.inr s.2)) (0,
 [])).bind fun o=>(sortM (Ty.pair (Ty.int IntKind.i64) (Ty.pair (Ty.int IntKind.i64) (Ty.pair (Ty.int IntKind.i64) (Ty.pair (Ty.int IntKind.i64) (Ty.pair
 (Ty.int IntKind.i64) (Ty.pair (Ty.int IntKind.i64) (Ty.pair (Ty.int IntKind.i64) (Ty.pair Ty.str Ty.str)))))))) cf82 o).bind fun r=>some r
theorem c33:SpecOK Tryz.prog 33 ⟨as33,rs33,m33⟩ :=
 fc tabs32OK [] an33 Tryz.f33 fun x=>by kernel_rfl
def tabs33:Tabs:=Tabs.add tabs32 33 ⟨as33,rs33,m33⟩
theorem tabs33OK:TabOK Tryz.prog tabs33:=TabOK.add tabs32OK c33 Tryz.call33

/-! putlog/archive.Believed -/
def as34:List Ty:=[(.one (.list tR)),tI]
def rs34:List Ty:=[(.list tR)]
def an34:Ann:=.a
def m34:((List (Int×Int×Int×Int×Int×Int×Int×List UInt8×List UInt8))×Int)→Option (List (Int×Int×Int×Int×Int×Int×Int×List UInt8×List UInt8)) :=
 fun x=>(m29 x.1).bind fun r=>bif PE.notM r then some [] else (m79 (x.1,x.2)).bind fun r=>some r.1
theorem c34:SpecOK Tryz.prog 34 ⟨as34,rs34,m34⟩ :=
 fc tabs33OK [] an34 Tryz.f34 fun x=>by kernel_rfl
def tabs34:Tabs:=Tabs.add tabs33 34 ⟨as34,rs34,m34⟩
theorem tabs34OK:TabOK Tryz.prog tabs34:=TabOK.add tabs33OK c34 Tryz.call34

/-! putlog/archive.Forks -/
def as39:List Ty:=[(.one (.list tR))]
def rs39:List Ty:=[tQ]
def an39:Ann:=.seq (.a) (.seq (.a) (.seq (.a) (.seq (.seq (.a) (.block (.loop ⟨[(3,.r (.c (.h 1))),(19,.r (.c (.d (.d tI))))],(4::5::6::7::ra 20 48 ([])),[],[.arr tP]⟩ [(.exit 0,⟨[(3,.r (.c (.h 1)))],(4::5::6::7::ra 19 49 ([])),[],[.arr tP]⟩)] (.seq (.a) (.seq (.a) (.seq (.join [(.norm,⟨[(3,.r (.c (.h 2)))],(4::5::6::7::ra 21 46 ([])),[(1,.gone)],[.arr tP]⟩)] (.block (.seq (.a) (.seq (.a) (.seq (.reg [0,1,3,7,15,15,47,111,255,511,1023,15,2063,8191,16383,32767] (ra 0 16 ([])) (z0::.s [1] []::za 4 (.s [1] []::z0::.s [1] []::z0::.s [1] []::z0::.s [2] []::za 3 ([]))) (.a)) (.a)))))) (.a))))))) (.a))))
def m39:(List (Int×Int×Int×Int×Int×Int×Int×List UInt8×List UInt8))→Option (List (Int×Int)) :=
 fun x=>(m29 x).bind fun r=>bif PE.notM r then some [] else (sliceM x (min 1 (lenM x)) (lenM x)).bind fun r_1=>(loopM (fun (s:Int×List (Int×Int)) =>
 bif ltM s.1 (lenM r_1) then ((idxM r_1 s.1).bind fun r_2=>(idxM x s.1).bind fun r_3=>(bif PE.notM (eqM (lenM s.2) 0) then chkM (wrap .i64 (lenM s.2
 - 1)) (lenM s.2) else some ()).bind fun r_4=>(bif PE.notM (eqM (lenM s.2) 0) then (idxM s.2 (wrap .i64 (lenM s.2-1))).bind fun (x:Int×Int) =>
 some x.1 else some 0).bind fun r_5=>bif PE.andM (PE.andM (eqM r_3.1 r_2.1) (eqM r_3.2.1 r_2.2.1)) (PE.orM (eqM (lenM s.2) 0) (PE.notM (eqM r_5 r_2.1))) then
 (appM (nat_lit 16) s.2 [(r_2.1,r_2.2.1)]).bind fun r=>some r else some s.2).bind fun o=>some (Sum.inl (wrap .i64 (s.1+1),o)) else some (Sum.inr
 s.2)) (0,[])).bind fun o=>some o
theorem c39:SpecOK Tryz.prog 39 ⟨as39,rs39,m39⟩ :=
 fc tabs34OK [] an39 Tryz.f39 fun x=>by kernel_rfl
def tabs39:Tabs:=Tabs.add tabs34 39 ⟨as39,rs39,m39⟩
theorem tabs39OK:TabOK Tryz.prog tabs39:=TabOK.add tabs34OK c39 Tryz.call39

/-! putlog/putlogref39.SamePairs -/
def as40:List Ty:=[tQ,tQ]
def rs40:List Ty:=[.bool]
def an40:Ann:=.seq (.a) (.seq (.a) (.seq (.seq (.a) (.block (.loop ⟨[(5,.r (.c (.d (.d tI))))],(ra 11 15 ([])),[],[]⟩ [(.exit 0,⟨[],(5::ra 11 15 ([])),[],[]⟩),(.ret,⟨[(4,.r (.c (.d (.d .bool))))],(5::ra 11 15 ([])),[],[]⟩)] (.seq (.a) (.seq (.block (.seq (.reg [0,0,3,7,0,0,48,112,255] (ra 0 9 ([])) (za 9 ([])) (.a)) (.a))) (.a)))))) (.a)))
def m40:((List (Int×Int))×List (Int×Int))→Option (Bool) :=
 fun x=>bif PE.notM (eqM (lenM x.1) (lenM x.2)) then some false else (loopM (fun (s:Int)=>bif ltM s (lenM x.1) then (idxM x.1 s).bind fun r=>(idxM x.2
 s).bind fun r_1=>bif PE.notM (PE.andM (eqM r.1 r_1.1) (eqM r.2 r_1.2)) then some (Sum.inr (Sum.inr false)) else some (Sum.inl (wrap .i64 (s+1)))
 else some (Sum.inr (Sum.inl ()))) 0).bind fun o=>Sum.elim (fun (t:Unit)=>some true) (fun (t:Bool)=>some t) o
theorem c40:SpecOK Tryz.prog 40 ⟨as40,rs40,m40⟩ :=
 fc tabs39OK [] an40 Tryz.f40 fun x=>by kernel_rfl
def tabs40:Tabs:=Tabs.add tabs39 40 ⟨as40,rs40,m40⟩
theorem tabs40OK:TabOK Tryz.prog tabs40:=TabOK.add tabs39OK c40 Tryz.call40

/-! putlog/putlogref39.Same -/
def as26:List Ty:=[(.list tR),(.list tR)]
def rs26:List Ty:=[.bool]
def an26:Ann:=.seq (.a) (.seq (.a) (.seq (.seq (.a) (.block (.loop ⟨[(5,.r (.c (.d (.d tI))))],(ra 11 15 ([])),[],[]⟩ [(.exit 0,⟨[],(5::ra 11 15 ([])),[],[]⟩),(.ret,⟨[(4,.r (.c (.d (.d .bool))))],(5::ra 11 15 ([])),[],[]⟩)] (.seq (.a) (.seq (.block (.seq (.reg [0,0,3,7,0,0,48,112,255] (ra 0 9 ([])) (za 9 ([])) (.a)) (.a))) (.a)))))) (.a)))
def m26:((List (Int×Int×Int×Int×Int×Int×Int×List UInt8×List UInt8))×List (Int×Int×Int×Int×Int×Int×Int×List UInt8×List UInt8))→Option (Bool) :=
 fun x=>bif PE.notM (eqM (lenM x.1) (lenM x.2)) then some false else (loopM (fun (s:Int)=>bif ltM s (lenM x.1) then (idxM x.1 s).bind fun r=>(idxM x.2
 s).bind fun r_1=>bif PE.notM (PE.andM (eqM r.1 r_1.1) (PE.andM (eqM r.2.1 r_1.2.1) (PE.andM (eqM r.2.2.1 r_1.2.2.1) (PE.andM (eqM r.2.2.2.1 r_1.2.2.2.1)
 (PE.andM (eqM r.2.2.2.2.1 r_1.2.2.2.2.1) (PE.andM (eqM r.2.2.2.2.2.1 r_1.2.2.2.2.2.1) (PE.andM (eqM r.2.2.2.2.2.2.1 r_1.2.2.2.2.2.2.1) (PE.andM (eqsM
 r.2.2.2.2.2.2.2.1 r_1.2.2.2.2.2.2.2.1) (eqsM r.2.2.2.2.2.2.2.2 r_1.2.2.2.2.2.2.2.2))))))))) then some (Sum.inr (Sum.inr false)) else some (Sum.inl (wrap
 IntKind.i64 (s+1))) else some (Sum.inr (Sum.inl ()))) 0).bind fun o=>Sum.elim (fun (t:Unit)=>some true) (fun (t:Bool)=>some t) o
theorem c26:SpecOK Tryz.prog 26 ⟨as26,rs26,m26⟩ :=
 fc tabs40OK [] an26 Tryz.f26 fun x=>by kernel_rfl
def tabs26:Tabs:=Tabs.add tabs40 26 ⟨as26,rs26,m26⟩
theorem tabs26OK:TabOK Tryz.prog tabs26:=TabOK.add tabs40OK c26 Tryz.call26

/-! putlog/archive.Genuine -/
def as38:List Ty:=[.str,tR]
def rs38:List Ty:=[.bool]
def an38:Ann:=.seq (.a) (.seq (.reg [0,1,3,7,15,31,63,127,255,255,1023,255,2303,8191,16383,32767] (ra 0 16 ([])) (za 4 (.s [0] []::za 4 (.s [0] []::z0::z0::.s [0] []::za 3 ([])))) (.a)) (.a))
def m38:(List UInt8×Int×Int×Int×Int×Int×Int×Int×List UInt8×List UInt8)→Option (Bool) :=
 fun x=>(bif eqM (lenM x.1) 32 then m61 (x.2.1,x.2.2.1,x.2.2.2.1,x.2.2.2.2.1,x.2.2.2.2.2.1,x.2.2.2.2.2.2.1,x.2.2.2.2.2.2.2.1,x.2.2.2.2.2.2.2.2.1,
 x.2.2.2.2.2.2.2.2.2) else some false).bind fun r=>(bif PE.andM (eqM (lenM x.1) 32) r then m85 (x.1,x.2.1,x.2.2.1,x.2.2.2.1,x.2.2.2.2.1,x.2.2.2.2.2.1,
 x.2.2.2.2.2.2.1,x.2.2.2.2.2.2.2.1,x.2.2.2.2.2.2.2.2.1,x.2.2.2.2.2.2.2.2.2) else some []).bind fun r_1=>some (PE.andM (PE.andM (eqM (lenM x.1) 32) r)
 (eqsM r_1 x.2.2.2.2.2.2.2.2.2))
theorem c38:SpecOK Tryz.prog 38 ⟨as38,rs38,m38⟩ :=
 fc tabs26OK [] an38 Tryz.f38 fun x=>by kernel_rfl
def tabs38:Tabs:=Tabs.add tabs26 38 ⟨as38,rs38,m38⟩
theorem tabs38OK:TabOK Tryz.prog tabs38:=TabOK.add tabs26OK c38 Tryz.call38

/-! putlog/putloglaw39.sane -/
def as11:List Ty:=[]
def rs11:List Ty:=[.bool]
def an11:Ann:=.a
def m11:Unit→Option (Bool) :=
 fun x=>(m37 ([(107:UInt8),(107:UInt8),(107:UInt8),(107:UInt8),(107:UInt8),(107:UInt8),(107:UInt8),(107:UInt8),(107:UInt8),(107 :
 UInt8),(107:UInt8),(107:UInt8),(107:UInt8),(107:UInt8),(107:UInt8),(107:UInt8),(107:UInt8),(107:UInt8),(107:UInt8),(107:UInt8),
 (107:UInt8),(107:UInt8),(107:UInt8),(107:UInt8),(107:UInt8),(107:UInt8),(107:UInt8),(107:UInt8),(107:UInt8),(107:UInt8),(107 :
 UInt8),(107:UInt8)],[],3,0,100,1,5,10,(-1),[],[])).bind fun r=>(m31 ([],r.1.1,r.1.2.1,r.1.2.2.1,r.1.2.2.2.1,r.1.2.2.2.2.1,
 r.1.2.2.2.2.2.1,r.1.2.2.2.2.2.2.1,r.1.2.2.2.2.2.2.2.1,r.1.2.2.2.2.2.2.2.2)).bind fun r_1=>(m37 ([(107:UInt8),(107:UInt8),(107:UInt8),(107 :
 UInt8),(107:UInt8),(107:UInt8),(107:UInt8),(107:UInt8),(107:UInt8),(107:UInt8),(107:UInt8),(107:UInt8),(107:UInt8),(107:UInt8),
 (107:UInt8),(107:UInt8),(107:UInt8),(107:UInt8),(107:UInt8),(107:UInt8),(107:UInt8),(107:UInt8),(107:UInt8),(107:UInt8),(107 :
 UInt8),(107:UInt8),(107:UInt8),(107:UInt8),(107:UInt8),(107:UInt8),(107:UInt8),(107:UInt8)],r_1.1,3,0,200,1,5,12,(-1),[],
 [])).bind fun r_2=>(m31 (r_1.1,r_2.1.1,r_2.1.2.1,r_2.1.2.2.1,r_2.1.2.2.2.1,r_2.1.2.2.2.2.1,r_2.1.2.2.2.2.2.1,r_2.1.2.2.2.2.2.2.1,
 r_2.1.2.2.2.2.2.2.2.1,r_2.1.2.2.2.2.2.2.2.2)).bind fun r_3=>(m37 ([(107:UInt8),(107:UInt8),(107:UInt8),(107:UInt8),(107:UInt8),(107 :
 UInt8),(107:UInt8),(107:UInt8),(107:UInt8),(107:UInt8),(107:UInt8),(107:UInt8),(107:UInt8),(107:UInt8),(107:UInt8),(107:UInt8),
 (107:UInt8),(107:UInt8),(107:UInt8),(107:UInt8),(107:UInt8),(107:UInt8),(107:UInt8),(107:UInt8),(107:UInt8),(107:UInt8),(107 :
 UInt8),(107:UInt8),(107:UInt8),(107:UInt8),(107:UInt8),(107:UInt8)],r_3.1,3,0,300,2,0,0,1,[],[])).bind fun r_4=>(m31 (r_3.1,
 r_4.1.1,r_4.1.2.1,r_4.1.2.2.1,r_4.1.2.2.2.1,r_4.1.2.2.2.2.1,r_4.1.2.2.2.2.2.1,r_4.1.2.2.2.2.2.2.1,r_4.1.2.2.2.2.2.2.2.1,r_4.1.2.2.2.2.2.2.2.2)).bind
 fun r_5=>(m20 (r.1.1,r.1.2.1,r.1.2.2.1,r.1.2.2.2.1,r.1.2.2.2.2.1,r.1.2.2.2.2.2.1,r.1.2.2.2.2.2.2.1,r.1.2.2.2.2.2.2.2.1,r.1.2.2.2.2.2.2.2.2)).bind
 fun r_6=>(m37 ([(107:UInt8)],r_1.1,r.1.1,r.1.2.1,r.1.2.2.1,r.1.2.2.2.1,r.1.2.2.2.2.1,r.1.2.2.2.2.2.1,r.1.2.2.2.2.2.2.1,r.1.2.2.2.2.2.2.2.1,
 r.1.2.2.2.2.2.2.2.2)).bind fun r_7=>bif PE.orM (PE.orM (PE.orM (PE.orM (PE.orM (PE.orM (PE.orM (PE.orM (PE.orM (PE.notM (eqM r.2 0)) (PE.notM (eqM r_1.2
 0))) (PE.notM (eqM r_2.2 0))) (PE.notM (eqM r_3.2 0))) (PE.notM (eqM r_4.2 0))) (PE.notM (eqM r_5.2 0))) (PE.notM (eqM r_6.2 0))) (PE.notM (eqM r_7.2 390)))
 (PE.notM (eqM (lenM r_5.1) 3))) (ltM (lenM r_6.1) 9) then some false else (m27 (r_1.1,[(r_4.1.1,r_4.1.2.1,r_4.1.2.2.1,r_4.1.2.2.2.1,r_4.1.2.2.2.2.1,
 r_4.1.2.2.2.2.2.1,r_4.1.2.2.2.2.2.2.1,r_4.1.2.2.2.2.2.2.2.1,r_4.1.2.2.2.2.2.2.2.2)])).bind fun r_8=>(m31 (r_5.1,r_2.1.1,r_2.1.2.1,201,r_2.1.2.2.2.1,
 r_2.1.2.2.2.2.1,r_2.1.2.2.2.2.2.1,r_2.1.2.2.2.2.2.2.1,r_2.1.2.2.2.2.2.2.2.1,r_2.1.2.2.2.2.2.2.2.2)).bind fun r_9=>(m28 (r_5.1,r_1.1)).bind fun r_10 =>
 (m24 [r_6.1,[(120:UInt8)]]).bind fun r_11=>(m32 r_1.1).bind fun r_12=>(bif PE.notM (PE.orM (PE.orM (PE.orM (PE.notM (eqM r_9.2 0)) (PE.notM (eqM r_10.2
 0))) (PE.notM (eqM r_11.2 0))) (PE.notM (eqM r_12.2 0))) then m42 r_6.1 else some []).bind fun r_13=>bif PE.orM (PE.orM (PE.orM (PE.orM (PE.notM (eqM r_9.2
 0)) (PE.notM (eqM r_10.2 0))) (PE.notM (eqM r_11.2 0))) (PE.notM (eqM r_12.2 0))) (PE.notM (eqsM r_12.1 r_13)) then some false else (m33 r_1.1).bind fun r_14
 => (m33 r_3.1).bind fun r_15=>(m33 r_5.1).bind fun r_16=>(bif eqM (lenM r_14) 1 then idxM r_14 0 else some (0,0,0,0,0,0,0,[],[])).bind fun r_17 =>
 (bif PE.andM (PE.andM (eqM (lenM r_14) 1) (eqM r_17.2.2.2.2.2.1 10)) (eqM (lenM r_15) 1) then idxM r_15 0 else some (0,0,0,0,0,0,0,[],[])).bind fun
 r_18=>(bif PE.andM (PE.andM (PE.andM (PE.andM (eqM (lenM r_14) 1) (eqM r_17.2.2.2.2.2.1 10)) (eqM (lenM r_15) 1)) (eqM r_18.2.2.2.2.2.1 12)) (eqM (lenM
 r_16) 1) then idxM r_16 0 else some (0,0,0,0,0,0,0,[],[])).bind fun r_19=>(m34 (r_5.1,3)).bind fun r_20=>(bif eqM (lenM r_20) 3 then m34 (r_8.1,
 3) else some []).bind fun r_21=>(bif PE.andM (eqM (lenM r_20) 3) (eqM (lenM r_21) 1) then m34 ([(r_2.1.1,r_2.1.2.1,r_2.1.2.2.1,r_2.1.2.2.2.1,
 r_2.1.2.2.2.2.1,r_2.1.2.2.2.2.2.1,r_2.1.2.2.2.2.2.2.1,r_2.1.2.2.2.2.2.2.2.1,r_2.1.2.2.2.2.2.2.2.2),(r_4.1.1,r_4.1.2.1,r_4.1.2.2.1,r_4.1.2.2.2.1,
 r_4.1.2.2.2.2.1,r_4.1.2.2.2.2.2.1,r_4.1.2.2.2.2.2.2.1,r_4.1.2.2.2.2.2.2.2.1,r_4.1.2.2.2.2.2.2.2.2)],3) else some []).bind fun r_22=>(bif PE.andM
 (PE.andM (eqM (lenM r_20) 3) (eqM (lenM r_21) 1)) (eqM (lenM r_22) 0) then m34 (r_9.1,3) else some []).bind fun r_23=>(m39 r_9.1).bind fun r_24=>(m40
 (r_24,[(3,1)])).bind fun r_25=>(bif r_25 then m39 r_5.1 else some []).bind fun r_26=>(bif PE.andM (PE.andM (PE.andM (PE.andM (PE.andM (PE.andM (PE.andM
 (eqM (lenM r_14) 1) (eqM r_17.2.2.2.2.2.1 10)) (eqM (lenM r_15) 1)) (eqM r_18.2.2.2.2.2.1 12)) (eqM (lenM r_16) 1)) (eqM r_19.2.2.2.2.2.1 10)) (PE.andM
 (PE.andM (PE.andM (eqM (lenM r_20) 3) (eqM (lenM r_21) 1)) (eqM (lenM r_22) 0)) (eqM (lenM r_23) 1))) (PE.andM r_25 (eqM (lenM r_26) 0)) then sliceM r_6.1 0 9
 else some []).bind fun r_27=>(bif PE.andM (PE.andM (PE.andM (PE.andM (PE.andM (PE.andM (PE.andM (PE.andM (eqM (lenM r_14) 1) (eqM r_17.2.2.2.2.2.1 10)) (eqM
 (lenM r_15) 1)) (eqM r_18.2.2.2.2.2.1 12)) (eqM (lenM r_16) 1)) (eqM r_19.2.2.2.2.2.1 10)) (PE.andM (PE.andM (PE.andM (eqM (lenM r_20) 3) (eqM (lenM r_21) 1))
 (eqM (lenM r_22) 0)) (eqM (lenM r_23) 1))) (PE.andM r_25 (eqM (lenM r_26) 0))) (eqsM r_27 [(6:UInt8),(0:UInt8),(200:UInt8),(1:UInt8),(2:UInt8),
 (10:UInt8),(20:UInt8),(1:UInt8),(64:UInt8)]) then m26 (r_10.1,[(r_2.1.1,r_2.1.2.1,r_2.1.2.2.1,r_2.1.2.2.2.1,r_2.1.2.2.2.2.1,
 r_2.1.2.2.2.2.2.1,r_2.1.2.2.2.2.2.2.1,r_2.1.2.2.2.2.2.2.2.1,r_2.1.2.2.2.2.2.2.2.2),(r_4.1.1,r_4.1.2.1,r_4.1.2.2.1,r_4.1.2.2.2.1,r_4.1.2.2.2.2.1,
 r_4.1.2.2.2.2.2.1,r_4.1.2.2.2.2.2.2.1,r_4.1.2.2.2.2.2.2.2.1,r_4.1.2.2.2.2.2.2.2.2)]) else some false).bind fun r_28=>(bif PE.andM (PE.andM (PE.andM
 (PE.andM (PE.andM (PE.andM (PE.andM (PE.andM (PE.andM (eqM (lenM r_14) 1) (eqM r_17.2.2.2.2.2.1 10)) (eqM (lenM r_15) 1)) (eqM r_18.2.2.2.2.2.1 12)) (eqM
 (lenM r_16) 1)) (eqM r_19.2.2.2.2.2.1 10)) (PE.andM (PE.andM (PE.andM (eqM (lenM r_20) 3) (eqM (lenM r_21) 1)) (eqM (lenM r_22) 0)) (eqM (lenM r_23) 1)))
 (PE.andM r_25 (eqM (lenM r_26) 0))) (eqsM r_27 [(6:UInt8),(0:UInt8),(200:UInt8),(1:UInt8),(2:UInt8),(10:UInt8),(20:UInt8),(1:UInt8),
 (64:UInt8)])) r_28 then m26 (r_11.1,r_1.1) else some false).bind fun r_29=>(bif PE.andM (PE.andM (PE.andM (PE.andM (PE.andM (PE.andM (PE.andM (PE.andM
 (PE.andM (PE.andM (eqM (lenM r_14) 1) (eqM r_17.2.2.2.2.2.1 10)) (eqM (lenM r_15) 1)) (eqM r_18.2.2.2.2.2.1 12)) (eqM (lenM r_16) 1)) (eqM r_19.2.2.2.2.2.1
 10)) (PE.andM (PE.andM (PE.andM (eqM (lenM r_20) 3) (eqM (lenM r_21) 1)) (eqM (lenM r_22) 0)) (eqM (lenM r_23) 1))) (PE.andM r_25 (eqM (lenM r_26) 0))) (eqsM
 r_27 [(6:UInt8),(0:UInt8),(200:UInt8),(1:UInt8),(2:UInt8),(10:UInt8),(20:UInt8),(1:UInt8),(64:UInt8)])) r_28) r_29 then m38 ([(107 :
 UInt8),(107:UInt8),(107:UInt8),(107:UInt8),(107:UInt8),(107:UInt8),(107:UInt8),(107:UInt8),(107:UInt8),(107:UInt8),(107:UInt8),
 (107:UInt8),(107:UInt8),(107:UInt8),(107:UInt8),(107:UInt8),(107:UInt8),(107:UInt8),(107:UInt8),(107:UInt8),(107:UInt8),(107 :
 UInt8),(107:UInt8),(107:UInt8),(107:UInt8),(107:UInt8),(107:UInt8),(107:UInt8),(107:UInt8),(107:UInt8),(107:UInt8),(107:UInt8)],
 r_2.1.1,r_2.1.2.1,r_2.1.2.2.1,r_2.1.2.2.2.1,r_2.1.2.2.2.2.1,r_2.1.2.2.2.2.2.1,r_2.1.2.2.2.2.2.2.1,r_2.1.2.2.2.2.2.2.2.1,r_2.1.2.2.2.2.2.2.2.2) else
 some false).bind fun r_30=>(bif PE.andM (PE.andM (PE.andM (PE.andM (PE.andM (PE.andM (PE.andM (PE.andM (PE.andM (PE.andM (PE.andM (eqM (lenM r_14) 1) (eqM
 r_17.2.2.2.2.2.1 10)) (eqM (lenM r_15) 1)) (eqM r_18.2.2.2.2.2.1 12)) (eqM (lenM r_16) 1)) (eqM r_19.2.2.2.2.2.1 10)) (PE.andM (PE.andM (PE.andM (eqM (lenM
 r_20) 3) (eqM (lenM r_21) 1)) (eqM (lenM r_22) 0)) (eqM (lenM r_23) 1))) (PE.andM r_25 (eqM (lenM r_26) 0))) (eqsM r_27 [(6:UInt8),(0:UInt8),(200 :
 UInt8),(1:UInt8),(2:UInt8),(10:UInt8),(20:UInt8),(1:UInt8),(64:UInt8)])) r_28) r_29) r_30 then m38 ([(107:UInt8),(107:UInt8),(107 :
 UInt8),(107:UInt8),(107:UInt8),(107:UInt8),(107:UInt8),(107:UInt8),(107:UInt8),(107:UInt8),(107:UInt8),(107:UInt8),(107:UInt8),
 (107:UInt8),(107:UInt8),(107:UInt8),(107:UInt8),(107:UInt8),(107:UInt8),(107:UInt8),(107:UInt8),(107:UInt8),(107:UInt8),(107 :
 UInt8),(107:UInt8),(107:UInt8),(107:UInt8),(107:UInt8),(107:UInt8),(107:UInt8),(107:UInt8),(107:UInt8)],r_2.1.1,r_2.1.2.1,201,
 r_2.1.2.2.2.1,r_2.1.2.2.2.2.1,r_2.1.2.2.2.2.2.1,r_2.1.2.2.2.2.2.2.1,r_2.1.2.2.2.2.2.2.2.1,r_2.1.2.2.2.2.2.2.2.2) else some false).bind fun r_31=>(bif
 PE.andM (PE.andM (PE.andM (PE.andM (PE.andM (PE.andM (PE.andM (PE.andM (PE.andM (PE.andM (PE.andM (PE.andM (eqM (lenM r_14) 1) (eqM r_17.2.2.2.2.2.1 10)) (eqM
 (lenM r_15) 1)) (eqM r_18.2.2.2.2.2.1 12)) (eqM (lenM r_16) 1)) (eqM r_19.2.2.2.2.2.1 10)) (PE.andM (PE.andM (PE.andM (eqM (lenM r_20) 3) (eqM (lenM r_21) 1))
 (eqM (lenM r_22) 0)) (eqM (lenM r_23) 1))) (PE.andM r_25 (eqM (lenM r_26) 0))) (eqsM r_27 [(6:UInt8),(0:UInt8),(200:UInt8),(1:UInt8),(2:UInt8),
 (10:UInt8),(20:UInt8),(1:UInt8),(64:UInt8)])) r_28) r_29) r_30) (PE.notM r_31) then m29 r_5.1 else some false).bind fun r_32=>(bif PE.andM
 (PE.andM (PE.andM (PE.andM (PE.andM (PE.andM (PE.andM (PE.andM (PE.andM (PE.andM (PE.andM (PE.andM (PE.andM (eqM (lenM r_14) 1) (eqM r_17.2.2.2.2.2.1 10))
 (eqM (lenM r_15) 1)) (eqM r_18.2.2.2.2.2.1 12)) (eqM (lenM r_16) 1)) (eqM r_19.2.2.2.2.2.1 10)) (PE.andM (PE.andM (PE.andM (eqM (lenM r_20) 3) (eqM (lenM
 r_21) 1)) (eqM (lenM r_22) 0)) (eqM (lenM r_23) 1))) (PE.andM r_25 (eqM (lenM r_26) 0))) (eqsM r_27 [(6:UInt8),(0:UInt8),(200:UInt8),(1:UInt8),(2
 : UInt8),(10:UInt8),(20:UInt8),(1:UInt8),(64:UInt8)])) r_28) r_29) r_30) (PE.notM r_31)) r_32 then m29 [(r_2.1.1,r_2.1.2.1,r_2.1.2.2.1,
 r_2.1.2.2.2.1,r_2.1.2.2.2.2.1,r_2.1.2.2.2.2.2.1,r_2.1.2.2.2.2.2.2.1,r_2.1.2.2.2.2.2.2.2.1,r_2.1.2.2.2.2.2.2.2.2),(r.1.1,r.1.2.1,r.1.2.2.1,
 r.1.2.2.2.1,r.1.2.2.2.2.1,r.1.2.2.2.2.2.1,r.1.2.2.2.2.2.2.1,r.1.2.2.2.2.2.2.2.1,r.1.2.2.2.2.2.2.2.2)] else some false).bind fun r=>some (PE.andM
 (PE.andM (PE.andM (PE.andM (PE.andM (PE.andM (PE.andM (PE.andM (PE.andM (PE.andM (PE.andM (PE.andM (PE.andM (PE.andM (eqM (lenM r_14) 1) (eqM r_17.2.2.2.2.2.1
 10)) (eqM (lenM r_15) 1)) (eqM r_18.2.2.2.2.2.1 12)) (eqM (lenM r_16) 1)) (eqM r_19.2.2.2.2.2.1 10)) (PE.andM (PE.andM (PE.andM (eqM (lenM r_20) 3) (eqM (lenM
 r_21) 1)) (eqM (lenM r_22) 0)) (eqM (lenM r_23) 1))) (PE.andM r_25 (eqM (lenM r_26) 0))) (eqsM r_27 [(6:UInt8),(0:UInt8),(200:UInt8),(1:UInt8),(2
 : UInt8),(10:UInt8),(20:UInt8),(1:UInt8),(64:UInt8)])) r_28) r_29) r_30) (PE.notM r_31)) r_32) (PE.notM r))
theorem c11:SpecOK Tryz.prog 11 ⟨as11,rs11,m11⟩ :=
 fc tabs38OK [] an11 Tryz.f11 fun x=>by kernel_rfl
def tabs11:Tabs:=Tabs.add tabs38 11 ⟨as11,rs11,m11⟩
theorem tabs11OK:TabOK Tryz.prog tabs11:=TabOK.add tabs38OK c11 Tryz.call11

/-! putlog/putlogref39.pick -/
def as48:List Ty:=[tI,tI]
def rs48:List Ty:=[tI]
def an48:Ann:=.seq (.a) (.seq (.join [(.norm,⟨[(0,.r (.c (.d (.d tI))))],[5,6,7,8,9],[],[]⟩)] (.a)) (.a))
def m48:(Int×Int)→Option (Int) :=
 fun x=>(bif ltM x.1 0 then some (wrap .i64 (negM (wrap .i64 (x.1+1)))) else some x.1).bind fun o=>(remM o x.2).bind fun r=>some r
theorem c48:SpecOK Tryz.prog 48 ⟨as48,rs48,m48⟩ :=
 fc tabs11OK [] an48 Tryz.f48 fun x=>by kernel_rfl
def tabs48:Tabs:=Tabs.add tabs11 48 ⟨as48,rs48,m48⟩
theorem tabs48OK:TabOK Tryz.prog tabs48:=TabOK.add tabs11OK c48 Tryz.call48

/-! putlog/putlogref02.extended -/
def as95:List Ty:=[.str]
def rs95:List Ty:=[(.list (.int .u8))]
def an95:Ann:=.seq (.a) (.seq (.a) (.seq (.seq (.a) (.block (.loop ⟨[(3,.r (.c (.h 0))),(4,.r (.c (.d (.d tI))))],(ra 6 12 ([])),[],[.arr (.int .u8)]⟩ [(.exit 0,⟨[(3,.r (.c (.h 0)))],(4::ra 6 12 ([])),[],[.arr (.int .u8)]⟩)] (.a)))) (.seq (.a) (.seq (.block (.loop ⟨[(3,.r (.c (.h 2)))],(ra 21 7 ([])),[(1,.gone)],[.arr (.int .u8)]⟩ [(.exit 2,⟨[(3,.r (.c (.h 2)))],(ra 21 7 ([])),[(1,.gone)],[.arr (.int .u8)]⟩)] (.a))) (.seq (.seq (.a) (.block (.loop ⟨[(3,.r (.c (.h 3))),(5,.r (.c (.d (.d tI))))],(ra 28 14 ([])),[(2,.gone)],[.arr (.int .u8)]⟩ [(.exit 4,⟨[(3,.r (.c (.h 3)))],(5::ra 28 14 ([])),[(2,.gone)],[.arr (.int .u8)]⟩)] (.a)))) (.a))))))
def m95:List UInt8→Option (List Int) :=
 fun x=>(loopM (fun (s:Int×List Int)=>bif ltM s.1 (lenM x) then (byteM x s.1).bind fun r=>(appM (nat_lit 1) s.2 [r]).bind fun r=>some (Sum.inl (wrap
 IntKind.i64 (s.1+1),r)) else some (Sum.inr s.2)) (0,[])).bind fun o=>(appM (nat_lit 1) o [128]).bind fun r=>(loopM (fun (s:List Int)=>(remM (lenM
 s) 64).bind fun r_1=>bif PE.notM (eqM r_1 56) then (appM (nat_lit 1) s [0]).bind fun r=>some (Sum.inl r) else some (Sum.inr s)) r).bind fun o_1=>(loopM
 (fun (s:Int×List Int)=>bif leM 0 s.1 then (shrM .i64 (wrap .i64 (8*lenM x)) (wrap .i64 (8*s.1))).bind fun r_1=>(appM (nat_lit
 1) s.2 [wrap .u8 r_1]).bind fun r=>some (Sum.inl (wrap .i64 (s.1-1),r)) else some (Sum.inr s.2)) (7,o_1)).bind fun o=>some o
theorem c95:SpecOK Tryz.prog 95 ⟨as95,rs95,m95⟩ :=
 fc tabs48OK [] an95 Tryz.f95 fun x=>by kernel_rfl
def tabs95:Tabs:=Tabs.add tabs48 95 ⟨as95,rs95,m95⟩
theorem tabs95OK:TabOK Tryz.prog tabs95:=TabOK.add tabs48OK c95 Tryz.call95
end
noncomputable section

/-! putlog/putlogref02.rotated -/
def as124:List Ty:=[(.int .u32),tI]
def rs124:List Ty:=[(.int .u32)]
def an124:Ann:=.seq (.a) (.seq (.reg [0,0,3,0,0,16,56,127,255] (ra 0 9 ([])) (za 9 ([])) (.a)) (.a))
def m124:(Int×Int)→Option (Int) :=
 fun x=>(shrM .u32 x.1 x.2).bind fun r=>(shlM .u32 x.1 (wrap .i64 (32-x.2))).bind fun r_1=>some (bitM BinOp.or .u32 r r_1)
theorem c124:SpecOK Tryz.prog 124 ⟨as124,rs124,m124⟩ :=
 fc tabs95OK [] an124 Tryz.f124 fun x=>by kernel_rfl
def tabs124:Tabs:=Tabs.add tabs95 124 ⟨as124,rs124,m124⟩
theorem tabs124OK:TabOK Tryz.prog tabs124:=TabOK.add tabs95OK c124 Tryz.call124

/-! putlog/putlogref02.constants -/
def as125:List Ty:=[]
def rs125:List Ty:=[(.list (.int .u32))]
def an125:Ann:=.a
def m125:Unit→Option (List Int) :=
 fun x=>some [1116352408,1899447441,3049323471,3921009573,961987163,1508970993,2453635748,2870763221,3624381080,310598401,607225278,1426881987,
 1925078388,2162078206,2614888103,3248222580,3835390401,4022224774,264347078,604807628,770255983,1249150122,1555081692,1996064986,2554220882,
 2821834349,2952996808,3210313671,3336571891,3584528711,113926993,338241895,666307205,773529912,1294757372,1396182291,1695183700,1986661051,
 2177026350,2456956037,2730485921,2820302411,3259730800,3345764771,3516065817,3600352804,4094571909,275423344,430227734,506948616,659060556,
 883997877,958139571,1322822218,1537002063,1747873779,1955562222,2024104815,2227730452,2361852424,2428436474,2756734187,3204031479,3329325298]
theorem c125:SpecOK Tryz.prog 125 ⟨as125,rs125,m125⟩ :=
 fc tabs124OK [] an125 Tryz.f125 fun x=>by kernel_rfl
def tabs125:Tabs:=Tabs.add tabs124 125 ⟨as125,rs125,m125⟩
theorem tabs125OK:TabOK Tryz.prog tabs125:=TabOK.add tabs124OK c125 Tryz.call125

/-! putlog/putlogref02.block -/
def as96:List Ty:=[(.list (.int .u32)),(.list (.int .u8))]
def rs96:List Ty:=[(.list (.int .u32))]
def an96_0:Ann:=.reg [0,0,2,7,15,31,0,0,128,448,960,2047,4095,0,0,16384,57344,122880,253952,524287,1048575] (ra 0 21 ([])) (za 3 (.s [1] []::.s [1] []::za 4 (.s [1] []::.s [1] []::za 5 (.s [1] []::.s [1] []::za 3 ([]))))) (.a)
def an96:Ann:=.seq (.a) (.seq (.a) (.seq (.seq (.a) (.block (.loop ⟨[(5,.r (.c (.h 0))),(6,.r (.c (.d (.d tI))))],(ra 19 40 ([])),[],[.arr (.int .u32)]⟩ [(.exit 0,⟨[(5,.r (.c (.h 0)))],(6::ra 19 40 ([])),[],[.arr (.int .u32)]⟩)] (.seq (.a) (.seq (.block (.reg [0,0,0,4,14,30,62,126,0,0,512,1536,3840,7936,16128,32512,65534,0,0,262144,786432,1966080,4063232,8257536,16646144,33554430,0,0,134217728,402653184,1006632960,2080374784,4227858432,8589934590,17179869182,34359738367,68719476735] (ra 0 37 ([])) (za 35 (.s [0] [1,0]::z0::[])) (.a))) (.a)))))) (.seq (.seq (.a) (.block (.loop ⟨[(5,.r (.c (.h 1))),(7,.r (.c (.d (.d tI))))],(8::9::ra 59 62 ([])),[(0,.gone)],[.arr (.int .u32)]⟩ [(.exit 2,⟨[(5,.r (.c (.h 1)))],(7::8::9::ra 59 62 ([])),[(0,.gone)],[.arr (.int .u32)]⟩)] (.seq (.a) (.seq (.block (.seq an96_0 (.seq an96_0 (.reg [0,0,0,4,14,30,0,126,0,0,512,1792,3840,8190,0,32766,65534,131071,262143] (ra 0 19 ([])) (za 4 (.s [1] []::.s [1] []::za 5 (.s [1] []::.s [1] []::za 4 (.s [1] [2,1]::z0::[])))) (.a))))) (.a)))))) (.seq (.a) (.seq (.a) (.seq (.a) (.seq (.seq (.a) (.block (.loop ⟨[(11,.r (.c (.d (.d (.list (.int .u32)))))),(12,.r (.c (.d (.d tI))))],(13::14::15::16::ra 125 96 ([])),[(2,.gone)],[]⟩ [(.exit 4,⟨[(11,.r (.c (.d (.d (.list (.int .u32))))))],(12::13::14::15::16::ra 125 96 ([])),[(2,.gone)],[]⟩)] (.seq (.a) (.seq (.block (.seq (.a) (.seq (.a) (.seq (.reg [0,1,3,0,8,0,56,120,0,376,1016,2047,0,0,8192,24576,61440,0,131072,0,524288,1572864,4063232,8384512,16777215,0,0,100663296,234881024,536870911,0,0,3221225472,7516192768,17179869183,34359738367] (ra 0 36 ([])) (za 32 (.s [1] []::.s [1] []::z0::z0::[])) (.a)) (.seq (.reg [0,1,0,7,15,0,47,127,0,0,512,1536,3840,0,0,16384,49152,122880,261888,0,524288,1572864,0,4194304,12582912,33030144,67108608,134217727,268435455] (ra 0 29 ([])) (za 29 ([])) (.a)) (.reg [0,0,3,0,0,16,48,0,128,384,0,1024,3072,0,15360,0,0,65536,196608,0,524288,1572864,4194303,8388607] (ra 0 24 ([])) (za 24 ([])) (.a))))))) (.a)))))) (.seq (.a) (.seq (.seq (.a) (.block (.loop ⟨[(17,.r (.c (.h 3))),(18,.r (.c (.d (.d tI))))],(ra 221 16 ([])),[],[.arr (.int .u32)]⟩ [(.exit 6,⟨[(17,.r (.c (.h 3)))],(18::ra 221 16 ([])),[],[.arr (.int .u32)]⟩)] (.seq (.a) (.seq (.block (.reg [0,0,0,6,14,0,0,96,224,510,1022,2047,4095] (ra 0 13 ([])) (za 11 (.s [3] [4,3]::z0::[])) (.a))) (.a)))))) (.a))))))))))
def m96:(List Int×List Int)→Option (List Int) :=
 fun x=>(loopM (fun (s:Int×List Int)=>bif ltM s.1 16 then (idxM x.2 (wrap .i64 (4*s.1))).bind fun r=>(shlM .u32 (wrap .u32 r)
 24).bind fun r_1=>(idxM x.2 (wrap .i64 (wrap .i64 (4*s.1)+1))).bind fun r_2=>(shlM .u32 (wrap .u32 r_2) 16).bind fun r_3
 => (idxM x.2 (wrap .i64 (wrap .i64 (4*s.1)+2))).bind fun r_4=>(shlM .u32 (wrap .u32 r_4) 8).bind fun r_5=>(idxM x.2 (wrap
 IntKind.i64 (wrap .i64 (4*s.1)+3))).bind fun r_6=>(appM (nat_lit 4) s.2 [bitM BinOp.or .u32 (bitM BinOp.or .u32 (bitM BinOp.or
 IntKind.u32 r_1 r_3) r_5) (wrap .u32 r_6)]).bind fun r=>some (Sum.inl (wrap .i64 (s.1+1),r)) else some (Sum.inr s.2)) (0,[])).bind fun o
 => (loopM (fun (s:Int×List Int)=>bif ltM s.1 64 then (chkM (wrap .i64 (s.1-15)) (lenM s.2)).bind fun r=>(idxM s.2 (wrap .i64 (s.1 -
 15))).bind fun r_1=>(m124 (r_1,7)).bind fun r_2=>(chkM (wrap .i64 (s.1-15)) (lenM s.2)).bind fun r_3=>(idxM s.2 (wrap .i64 (s.1 -
 15))).bind fun r_4=>(m124 (r_4,18)).bind fun r_5=>(chkM (wrap .i64 (s.1-15)) (lenM s.2)).bind fun r_6=>(idxM s.2 (wrap .i64 (s.1 -
 15))).bind fun r_7=>(shrM .u32 r_7 3).bind fun r_8=>(chkM (wrap .i64 (s.1-2)) (lenM s.2)).bind fun r_9=>(idxM s.2 (wrap .i64 (s.1
 - 2))).bind fun r_10=>(m124 (r_10,17)).bind fun r_11=>(chkM (wrap .i64 (s.1-2)) (lenM s.2)).bind fun r_12=>(idxM s.2 (wrap .i64 (s.1 -
 2))).bind fun r_13=>(m124 (r_13,19)).bind fun r_14=>(chkM (wrap .i64 (s.1-2)) (lenM s.2)).bind fun r_15=>(idxM s.2 (wrap .i64 (s.1 -
 2))).bind fun r_16=>(shrM .u32 r_16 10).bind fun r_17=>(chkM (wrap .i64 (s.1-16)) (lenM s.2)).bind fun r_18=>(idxM s.2 (wrap IntKind.i64
 (s.1-16))).bind fun r_19=>(chkM (wrap .i64 (s.1-7)) (lenM s.2)).bind fun r_20=>(idxM s.2 (wrap .i64 (s.1-7))).bind fun r_21=>(appM
 (nat_lit 4) s.2 [wrap .u32 (wrap .u32 (wrap .u32 (r_19+bitM BinOp.xor .u32 (bitM BinOp.xor .u32 r_2 r_5) r_8)+r_21) +
 bitM BinOp.xor .u32 (bitM BinOp.xor .u32 r_11 r_14) r_17)]).bind fun r=>some (Sum.inl (wrap .i64 (s.1+1),r)) else some (Sum.inr
 s.2)) (16,o)).bind fun o_1=>(m125 ()).bind fun r=>(appM (nat_lit 4) [] x.1).bind fun r_1=>(loopM (fun (s:List Int×Int)=>bif ltM s.2 64 then (idxM
 s.1 0).bind fun r_2=>(idxM s.1 4).bind fun r_3=>(idxM s.1 7).bind fun r_4=>(m124 (r_3,6)).bind fun r_5=>(m124 (r_3,11)).bind fun r_6=>(m124 (r_3,
 25)).bind fun r_7=>(idxM s.1 5).bind fun r_8=>(idxM s.1 6).bind fun r_9=>(idxM r s.2).bind fun r_10=>(chkM s.2 (lenM o_1)).bind fun r_11=>(idxM o_1
 s.2).bind fun r_12=>(m124 (r_2,2)).bind fun r_13=>(m124 (r_2,13)).bind fun r_14=>(m124 (r_2,22)).bind fun r_15=>(idxM s.1 1).bind fun r_16=>(idxM
 s.1 2).bind fun r_17=>(idxM s.1 1).bind fun r_18=>(idxM s.1 2).bind fun r_19=>(idxM s.1 1).bind fun r_20=>(idxM s.1 2).bind fun r_21=>(idxM s.1
 3).bind fun r_22=>(idxM s.1 5).bind fun r_23=>(idxM s.1 6).bind fun r=>some (Sum.inl ([wrap .u32 (wrap .u32 (wrap .u32 (wrap
 IntKind.u32 (wrap .u32 (r_4+bitM BinOp.xor .u32 (bitM BinOp.xor .u32 r_5 r_6) r_7)+bitM BinOp.xor .u32 (bitM BinOp.and
 IntKind.u32 r_3 r_8) (bitM BinOp.and .u32 (cplM .u32 r_3) r_9))+r_10)+r_12)+wrap .u32 (bitM BinOp.xor .u32 (bitM BinOp.xor
 IntKind.u32 r_13 r_14) r_15+bitM BinOp.xor .u32 (bitM BinOp.xor .u32 (bitM BinOp.and .u32 r_2 r_16) (bitM BinOp.and .u32 r_2
 r_17)) (bitM BinOp.and .u32 r_18 r_19))),r_2,r_20,r_21,wrap .u32 (r_22+wrap .u32 (wrap .u32 (wrap .u32 (wrap
 IntKind.u32 (r_4+bitM BinOp.xor .u32 (bitM BinOp.xor .u32 r_5 r_6) r_7)+bitM BinOp.xor .u32 (bitM BinOp.and .u32 r_3 r_8)
 (bitM BinOp.and .u32 (cplM .u32 r_3) r_9))+r_10)+r_12)),r_3,r_23,r],wrap .i64 (s.2+1))) else some (Sum.inr s.1)) (r_1,0)).bind
 fun o_2=>(loopM (fun (s:Int×List Int)=>bif ltM s.1 8 then (idxM x.1 s.1).bind fun r_2=>(idxM o_2 s.1).bind fun r_3=>(appM (nat_lit 4) s.2 [wrap
 IntKind.u32 (r_2+r_3)]).bind fun r=>some (Sum.inl (wrap .i64 (s.1+1),r)) else some (Sum.inr s.2)) (0,[])).bind fun o=>some o
theorem c96:SpecOK Tryz.prog 96 ⟨as96,rs96,m96⟩ :=
 fc tabs125OK [] an96 Tryz.f96 fun x=>by kernel_rfl
def tabs96:Tabs:=Tabs.add tabs125 96 ⟨as96,rs96,m96⟩
theorem tabs96OK:TabOK Tryz.prog tabs96:=TabOK.add tabs125OK c96 Tryz.call96

/-! putlog/putlogref02.Sum -/
def as52:List Ty:=[.str]
def rs52:List Ty:=[.str]
def an52:Ann:=.seq (.a) (.seq (.a) (.seq (.a) (.seq (.seq (.a) (.block (.loop ⟨[(3,.r (.c (.d (.d (.list (.int .u32)))))),(5,.r (.c (.d (.d tI))))],(ra 11 13 ([])),[],[]⟩ [(.exit 0,⟨[(3,.r (.c (.d (.d (.list (.int .u32))))))],(5::ra 11 13 ([])),[],[]⟩)] (.a)))) (.seq (.a) (.seq (.seq (.a) (.block (.loop ⟨[(6,.r (.c (.h 0))),(7,.r (.c (.d (.d tI))))],(ra 24 30 ([])),[],[.arr (.int .u8)]⟩ [(.exit 2,⟨[(6,.r (.c (.h 0)))],(7::ra 24 30 ([])),[],[.arr (.int .u8)]⟩)] (.seq (.a) (.seq (.block (.reg [0,0,0,6,14,30,62,0,0,384,896,1920,3968,0,0,24576,57344,122880,253952,0,0,1572864,3670016,7864320,16777214,33554431,67108863] (ra 0 27 ([])) (za 25 (.s [0] [1,0]::z0::[])) (.a))) (.a)))))) (.a))))))
def m52:List UInt8→Option (List UInt8) :=
 fun x=>(m95 x).bind fun r=>(loopM (fun (s:List Int×Int)=>bif ltM s.2 (lenM r) then (sliceM r s.2 (wrap .i64 (s.2+64))).bind fun r_1=>(m96
 (s.1,r_1)).bind fun r=>some (Sum.inl (r,wrap .i64 (s.2+64))) else some (Sum.inr s.1)) ([1779033703,3144134277,1013904242,2773480762,
 1359893119,2600822924,528734635,1541459225],0)).bind fun o=>(loopM (fun (s:Int×List Int)=>bif ltM s.1 8 then (idxM o s.1).bind fun r_1=>(shrM
 IntKind.u32 r_1 24).bind fun r_2=>(idxM o s.1).bind fun r_3=>(shrM .u32 r_3 16).bind fun r_4=>(idxM o s.1).bind fun r_5=>(shrM .u32 r_5
 8).bind fun r_6=>(idxM o s.1).bind fun r_7=>(appM (nat_lit 1) s.2 [wrap .u8 r_2,wrap .u8 r_4,wrap .u8 r_6,wrap IntKind.u8
 r_7]).bind fun r=>some (Sum.inl (wrap .i64 (s.1+1),r)) else some (Sum.inr s.2)) (0,[])).bind fun o=>some (strB o)
theorem c52:SpecOK Tryz.prog 52 ⟨as52,rs52,m52⟩ :=
 fc tabs96OK [] an52 Tryz.f52 fun x=>by kernel_rfl
def tabs52:Tabs:=Tabs.add tabs96 52 ⟨as52,rs52,m52⟩
theorem tabs52OK:TabOK Tryz.prog tabs52:=TabOK.add tabs96OK c52 Tryz.call52

/-! putlog/putlogref02.Chain -/
def as92:List Ty:=[.str,.str]
def rs92:List Ty:=[.str]
def an92:Ann:=.a
def m92:(List UInt8×List UInt8)→Option (List UInt8) :=
 fun x=>(catM [(2:UInt8)] x.1).bind fun r=>(catM r x.2).bind fun r_1=>(m52 r_1).bind fun r=>some r
theorem c92:SpecOK Tryz.prog 92 ⟨as92,rs92,m92⟩ :=
 fc tabs52OK [] an92 Tryz.f92 fun x=>by kernel_rfl
def tabs92:Tabs:=Tabs.add tabs52 92 ⟨as92,rs92,m92⟩
theorem tabs92OK:TabOK Tryz.prog tabs92:=TabOK.add tabs52OK c92 Tryz.call92

/-! putlog/putlogref02.Head -/
def as91:List Ty:=[(.list .str)]
def rs91:List Ty:=[.str]
def an91:Ann:=.seq (.a) (.seq (.a) (.seq (.seq (.a) (.block (.loop ⟨[(3,.r (.c (.d (.d .str)))),(4,.r (.c (.d (.d tI))))],(ra 7 12 ([])),[],[]⟩ [(.exit 0,⟨[(3,.r (.c (.d (.d .str))))],(4::ra 7 12 ([])),[],[]⟩)] (.a)))) (.a)))
def m91:List (List UInt8)→Option (List UInt8) :=
 fun x=>(mkM 32 32 (nat_lit 1) 0).bind fun r=>(loopM (fun (s:List UInt8×Int)=>bif ltM s.2 (lenM x) then (idxM x s.2).bind fun r_1=>(m92 (s.1,
 r_1)).bind fun r=>some (Sum.inl (r,wrap .i64 (s.2+1))) else some (Sum.inr s.1)) (strB r,0)).bind fun o=>some o
theorem c91:SpecOK Tryz.prog 91 ⟨as91,rs91,m91⟩ :=
 fc tabs92OK [] an91 Tryz.f91 fun x=>by kernel_rfl
def tabs91:Tabs:=Tabs.add tabs92 91 ⟨as91,rs91,m91⟩
theorem tabs91OK:TabOK Tryz.prog tabs91:=TabOK.add tabs92OK c91 Tryz.call91

/-! putlog/putlogref01.zigzag -/
def as123:List Ty:=[tI]
def rs123:List Ty:=[(.int .u64)]
def an123:Ann:=.a
def m123:Int→Option (Int) :=
 fun x=>bif ltM x 0 then some (wrap .u64 (wrap .u64 (wrap .u64 (wrap .i64 (negM x))*2)-1)) else some (wrap .u64 (wrap
 IntKind.u64 x*2))
theorem c123:SpecOK Tryz.prog 123 ⟨as123,rs123,m123⟩ :=
 fc tabs91OK [] an123 Tryz.f123 fun x=>by kernel_rfl
def tabs123:Tabs:=Tabs.add tabs91 123 ⟨as123,rs123,m123⟩
theorem tabs123OK:TabOK Tryz.prog tabs123:=TabOK.add tabs91OK c123 Tryz.call123

/-! putlog/putlogref01.PutInt -/
def as87:List Ty:=[tI]
def rs87:List Ty:=[.str,tI]
def an87:Ann:=.seq (.a) (.seq (.a) (.seq (.a) (.seq (.a) (.seq (.block (.loop ⟨[(4,.r (.c (.d (.d (.int .u64))))),(5,.r (.c (.h 0)))],(ra 14 11 ([])),[],[.arr (.int .u8)]⟩ [(.exit 0,⟨[(4,.r (.c (.d (.d (.int .u64))))),(5,.r (.c (.h 0)))],(ra 14 11 ([])),[],[.arr (.int .u8)]⟩)] (.a))) (.a)))))
def m87:Int→Option (List UInt8×Int) :=
 fun x=>bif PE.orM (ltM x (-4611686018427387903)) (ltM 4611686018427387903 x) then some ([],10) else (m123 x).bind fun r=>(loopM (fun (s:Int×List Int)
 => bif leM 128 s.1 then (remM s.1 128).bind fun r_1=>(appM (nat_lit 1) s.2 [wrap .u8 (wrap .u64 (r_1+128))]).bind fun r_2=>(divM
 IntKind.u64 s.1 128).bind fun r=>some (Sum.inl (r,r_2)) else some (Sum.inr (s.1,s.2))) (r,[])).bind fun o=>(appM (nat_lit 1) o.2 [wrap IntKind.u8
 o.1]).bind fun r=>some (strB r,0)
theorem c87:SpecOK Tryz.prog 87 ⟨as87,rs87,m87⟩ :=
 fc tabs123OK [] an87 Tryz.f87 fun x=>by kernel_rfl
def tabs87:Tabs:=Tabs.add tabs123 87 ⟨as87,rs87,m87⟩
theorem tabs87OK:TabOK Tryz.prog tabs87:=TabOK.add tabs123OK c87 Tryz.call87

/-! putlog/putlogref01.PutString -/
def as88:List Ty:=[.str]
def rs88:List Ty:=[.str,tI]
def an88:Ann:=.a
def m88:List UInt8→Option (List UInt8×Int) :=
 fun x=>bif ltM 65536 (lenM x) then some ([],10) else (m87 (lenM x)).bind fun r=>(catM r.1 x).bind fun r=>some (r,0)
theorem c88:SpecOK Tryz.prog 88 ⟨as88,rs88,m88⟩ :=
 fc tabs87OK [] an88 Tryz.f88 fun x=>by kernel_rfl
def tabs88:Tabs:=Tabs.add tabs87 88 ⟨as88,rs88,m88⟩
theorem tabs88OK:TabOK Tryz.prog tabs88:=TabOK.add tabs87OK c88 Tryz.call88

/-! putlog/putlogref39.Text -/
def as43:List Ty:=[tR]
def rs43:List Ty:=[.str]
def an43:Ann:=.seq (.a) (.seq (.a) (.seq (.seq (.a) (.block (.loop ⟨[(3,.r (.c (.d (.d .str)))),(26,.r (.c (.d (.d tI))))],(5::6::7::ra 27 12 ([])),[],[]⟩ [(.exit 0,⟨[(3,.r (.c (.d (.d .str))))],(5::6::7::ra 26 13 ([])),[],[]⟩)] (.a)))) (.a)))
def m43:(Int×Int×Int×Int×Int×Int×Int×List UInt8×List UInt8)→Option (List UInt8) :=
 fun x=>(loopM (fun (s:List UInt8×Int)=>bif ltM s.2 (lenM [x.1,x.2.1,x.2.2.1,x.2.2.2.1,x.2.2.2.2.1,x.2.2.2.2.2.1,x.2.2.2.2.2.2.1]) then (idxM [x.1,
 x.2.1,x.2.2.1,x.2.2.2.1,x.2.2.2.2.1,x.2.2.2.2.2.1,x.2.2.2.2.2.2.1] s.2).bind fun r=>(m87 r).bind fun r_1=>(catM s.1 r_1.1).bind fun r=>some
 (Sum.inl (r,wrap .i64 (s.2+1))) else some (Sum.inr s.1)) ([],0)).bind fun o=>(m88 x.2.2.2.2.2.2.2.1).bind fun r=>(catM o r.1).bind fun r =>
 some r
theorem c43:SpecOK Tryz.prog 43 ⟨as43,rs43,m43⟩ :=
 fc tabs88OK [] an43 Tryz.f43 fun x=>by kernel_rfl
def tabs43:Tabs:=Tabs.add tabs88 43 ⟨as43,rs43,m43⟩
theorem tabs43OK:TabOK Tryz.prog tabs43:=TabOK.add tabs88OK c43 Tryz.call43

/-! putlog/putlogref39.encoding -/
def as64:List Ty:=[tR]
def rs64:List Ty:=[.str]
def an64:Ann:=.a
def m64:(Int×Int×Int×Int×Int×Int×Int×List UInt8×List UInt8)→Option (List UInt8) :=
 fun x=>(m88 x.2.2.2.2.2.2.2.2).bind fun r=>(m43 (x.1,x.2.1,x.2.2.1,x.2.2.2.1,x.2.2.2.2.1,x.2.2.2.2.2.1,x.2.2.2.2.2.2.1,x.2.2.2.2.2.2.2.1,
 x.2.2.2.2.2.2.2.2)).bind fun r_1=>(catM r_1 r.1).bind fun r=>some r
theorem c64:SpecOK Tryz.prog 64 ⟨as64,rs64,m64⟩ :=
 fc tabs43OK [] an64 Tryz.f64 fun x=>by kernel_rfl
def tabs64:Tabs:=Tabs.add tabs43 64 ⟨as64,rs64,m64⟩
theorem tabs64OK:TabOK Tryz.prog tabs64:=TabOK.add tabs43OK c64 Tryz.call64

/-! putlog/putlogref39.believed -/
def as47:List Ty:=[(.one (.list tR)),tI]
def rs47:List Ty:=[(.list tR),.str]
def an47:Ann:=.seq (.a) (.seq (.a) (.seq (.a) (.block (.loop ⟨[(6,.r (.c (.d (.d .str)))),(7,.r (.c (.h 1)))],(8::9::ra 11 45 (ra 58 12 ([]))),[],[.arr tR]⟩ [(.ret,⟨[(4,.r (.c (.h 1))),(5,.r (.c (.d (.d .str))))],(6::7::8::9::ra 11 59 ([])),[],[.arr tR]⟩)] (.block (.seq (.a) (.seq (.seq (.a) (.block (.loop ⟨[(8,.r (.c (.h 2))),(9,.r (.c (.d (.d tI))))],(ra 11 34 ([])),[],[.arr tR]⟩ [(.exit 2,⟨[(8,.r (.c (.h 2)))],(9::ra 11 34 ([])),[],[.arr tR]⟩)] (.seq (.a) (.seq (.join [(.norm,⟨[(8,.r (.c (.h 3)))],(ra 18 27 ([])),[(2,.gone)],[.arr tR]⟩)] (.a)) (.a)))))) (.a))))))))
def m47:((List (Int×Int×Int×Int×Int×Int×Int×List UInt8×List UInt8))×Int)→Option ((List (Int×Int×Int×Int×Int×Int×Int×List UInt8×List UInt8))×List UInt8) :=
 fun x=>(m91 []).bind fun r=>(loopM (fun (s:List UInt8×List (Int×Int×Int×Int×Int×Int×Int×List UInt8×List UInt8))=>(loopM (fun (s_1 :
 Int×List (Int×Int×Int×Int×Int×Int×Int×List UInt8×List UInt8))=>bif ltM s_1.1 (lenM x.1) then ((idxM x.1 s_1.1).bind fun r_1=>(bif eqM
 r_1.1 x.2 then idxM x.1 s_1.1 else some (0,0,0,0,0,0,0,[],[])).bind fun r_2=>bif PE.andM (eqM r_1.1 x.2) (eqM r_2.2.1 (lenM s.2)) then (idxM x.1
 s_1.1).bind fun r_3=>(appM (nat_lit 88) s_1.2 [(r_3.1,r_3.2.1,r_3.2.2.1,r_3.2.2.2.1,r_3.2.2.2.2.1,r_3.2.2.2.2.2.1,r_3.2.2.2.2.2.2.1,
 r_3.2.2.2.2.2.2.2.1,r_3.2.2.2.2.2.2.2.2)]).bind fun r=>some r else some s_1.2).bind fun o=>some (Sum.inl (wrap .i64 (s_1.1+1),o)) else some
 (Sum.inr s_1.2)) (0,[])).bind fun o=>(bif PE.notM (PE.notM (eqM (lenM o) 1)) then chkM 0 (lenM o) else some ()).bind fun r_1=>(bif PE.notM (PE.notM (eqM
 (lenM o) 1)) then (idxM o 0).bind fun (x:Int×Int×Int×Int×Int×Int×Int×List UInt8×List UInt8)=>some x.2.2.2.2.2.2.2.1 else some []).bind fun
 r_2=>bif PE.orM (PE.notM (eqM (lenM o) 1)) (PE.notM (eqsM r_2 s.1)) then some (Sum.inr (s.1,s.2)) else (chkM 0 (lenM o)).bind fun r_3=>(idxM o 0).bind
 fun r_4=>(appM (nat_lit 88) s.2 [(r_4.1,r_4.2.1,r_4.2.2.1,r_4.2.2.2.1,r_4.2.2.2.2.1,r_4.2.2.2.2.2.1,r_4.2.2.2.2.2.2.1,r_4.2.2.2.2.2.2.2.1,
 r_4.2.2.2.2.2.2.2.2)]).bind fun r_5=>(chkM 0 (lenM o)).bind fun r_6=>(idxM o 0).bind fun r_7=>(m64 (r_7.1,r_7.2.1,r_7.2.2.1,r_7.2.2.2.1,
 r_7.2.2.2.2.1,r_7.2.2.2.2.2.1,r_7.2.2.2.2.2.2.1,r_7.2.2.2.2.2.2.2.1,r_7.2.2.2.2.2.2.2.2)).bind fun r_8=>(m92 (s.1,r_8)).bind fun r=>some (Sum.inl (r,
 r_5))) (r,[])).bind fun o=>some (o.2,o.1)
theorem c47:SpecOK Tryz.prog 47 ⟨as47,rs47,m47⟩ :=
 fc tabs64OK [] an47 Tryz.f47 fun x=>by kernel_rfl
def tabs47:Tabs:=Tabs.add tabs64 47 ⟨as47,rs47,m47⟩
theorem tabs47OK:TabOK Tryz.prog tabs47:=TabOK.add tabs64OK c47 Tryz.call47

/-! putlog/putlogref39.Key -/
def as17:List Ty:=[tI]
def rs17:List Ty:=[.str]
def an17:Ann:=.a
def m17:Int→Option (List UInt8) :=
 fun x=>(m48 (x,256)).bind fun r=>(m52 (strB [wrap .u8 r])).bind fun r=>some r
theorem c17:SpecOK Tryz.prog 17 ⟨as17,rs17,m17⟩ :=
 fc tabs47OK [] an17 Tryz.f17 fun x=>by kernel_rfl
def tabs17:Tabs:=Tabs.add tabs47 17 ⟨as17,rs17,m17⟩
theorem tabs17OK:TabOK Tryz.prog tabs17:=TabOK.add tabs47OK c17 Tryz.call17

/-! putlog/putlogref39.Draft -/
def as35:List Ty:=[(.pair tI tC),tI]
def rs35:List Ty:=[tR]
def an35:Ann:=.seq (.a) (.seq (.reg [0,1,3,0,8,31,0,64,255,0,512,2047,4095,8191,0,32767] (ra 0 16 ([])) (z0::.s [0] []::z0::z0::.s [0] []::z0::z0::.s [0] []::z0::z0::.s [0] []::za 3 (.s [] [2]::.s [2] [2]::[])) (.a)) (.seq (.seq (.a) (.cond (.seq (.reg [0,1,0,4,0,16,0,112,255,511] (ra 0 10 ([])) (z0::.s [2] []::z0::.s [2] []::z0::.s [0] []::za 3 (.s [1] [1]::[])) (.a)) (.a)) (.a))) (.a)))
def m35:((Int×Int×Int×Int×Int×Int)×Int)→Option (Int×Int×Int×Int×Int×Int×Int×List UInt8×List UInt8) :=
 fun x=>(m48 (x.1.1,4)).bind fun r=>(m48 (x.1.2.1,800001)).bind fun r_1=>(m48 (x.1.2.2.1,4)).bind fun r_2=>(m48 (x.1.2.2.2.1,20001)).bind fun r_3 =>
 (m48 (x.1.2.2.2.2.1,4)).bind fun r_4=>bif PE.andM (eqM r_4 3) (ltM 0 x.2) then (m48 (x.1.2.2.2.2.2,x.2)).bind fun r_5=>some (r,0,r_1,2,0,0,r_5,
 [],[]) else some (r,0,r_1,1,r_2,wrap .i64 (r_3-10000),(-1),[],[])
theorem c35:SpecOK Tryz.prog 35 ⟨as35,rs35,m35⟩ :=
 fc tabs17OK [] an35 Tryz.f35 fun x=>by kernel_rfl
def tabs35:Tabs:=Tabs.add tabs17 35 ⟨as35,rs35,m35⟩
theorem tabs35OK:TabOK Tryz.prog tabs35:=TabOK.add tabs17OK c35 Tryz.call35

/-! putlog/putlogref39.in -/
def as104:List Ty:=[tI,tI,tI]
def rs104:List Ty:=[.bool]
def an104:Ann:=.a
def m104:(Int×Int×Int)→Option (Bool) :=
 fun x=>some (PE.andM (leM x.2.1 x.1) (leM x.1 x.2.2))
theorem c104:SpecOK Tryz.prog 104 ⟨as104,rs104,m104⟩ :=
 fc tabs35OK [] an104 Tryz.f104 fun x=>by kernel_rfl
def tabs104:Tabs:=Tabs.add tabs35 104 ⟨as104,rs104,m104⟩
theorem tabs104OK:TabOK Tryz.prog tabs104:=TabOK.add tabs35OK c104 Tryz.call104

/-! putlog/putlogref39.right -/
def as63:List Ty:=[tR]
def rs63:List Ty:=[.bool]
def an63:Ann:=.a
def m63:(Int×Int×Int×Int×Int×Int×Int×List UInt8×List UInt8)→Option (Bool) :=
 fun x=>(m104 (x.1,0,7)).bind fun r=>(bif PE.notM (PE.notM r) then m104 (x.2.1,0,39) else some false).bind fun r_1=>(bif PE.notM (PE.orM (PE.notM r)
 (PE.notM r_1)) then m104 (x.2.2.1,0,800000) else some false).bind fun r_2=>bif PE.orM (PE.orM (PE.orM (PE.orM (PE.notM r) (PE.notM r_1)) (PE.notM r_2))
 (PE.notM (eqM (lenM x.2.2.2.2.2.2.2.1) 32))) (PE.notM (eqM (lenM x.2.2.2.2.2.2.2.2) 32)) then some false else bif eqM x.2.2.2.1 1 then (m104 (x.2.2.2.2.1,0,
 99)).bind fun r_3=>(bif r_3 then m104 (x.2.2.2.2.2.1,(-10000),10000) else some false).bind fun r=>some (PE.andM (PE.andM r_3 r) (eqM x.2.2.2.2.2.2.1
 (-1))) else (bif PE.andM (PE.andM (eqM x.2.2.2.1 2) (eqM x.2.2.2.2.1 0)) (eqM x.2.2.2.2.2.1 0) then m104 (x.2.2.2.2.2.2.1,0,wrap .i64 (x.2.1-1))
 else some false).bind fun r=>some (PE.andM (PE.andM (PE.andM (eqM x.2.2.2.1 2) (eqM x.2.2.2.2.1 0)) (eqM x.2.2.2.2.2.1 0)) r)
theorem c63:SpecOK Tryz.prog 63 ⟨as63,rs63,m63⟩ :=
 fc tabs104OK [] an63 Tryz.f63 fun x=>by kernel_rfl
def tabs63:Tabs:=Tabs.add tabs104 63 ⟨as63,rs63,m63⟩
theorem tabs63OK:TabOK Tryz.prog tabs63:=TabOK.add tabs104OK c63 Tryz.call63

/-! putlog/putlogref39.before -/
def as97:List Ty:=[tR,tR]
def rs97:List Ty:=[.bool]
def an97:Ann:=.seq (.a) (.seq (.a) (.seq (.a) (.seq (.reg [0,1,0,7,15,31] (ra 0 6 ([])) (.s [0] []::z0::.s [1] []::za 3 ([])) (.a)) (.a))))
def m97:((Int×Int×Int×Int×Int×Int×Int×List UInt8×List UInt8)×Int×Int×Int×Int×Int×Int×Int×List UInt8×List UInt8)→Option (Bool) :=
 fun x=>bif PE.notM (eqM x.1.1 x.2.1) then some (ltM x.1.1 x.2.1) else bif PE.notM (eqM x.1.2.1 x.2.2.1) then some (ltM x.1.2.1 x.2.2.1) else (m64 (x.1.1,
 x.1.2.1,x.1.2.2.1,x.1.2.2.2.1,x.1.2.2.2.2.1,x.1.2.2.2.2.2.1,x.1.2.2.2.2.2.2.1,x.1.2.2.2.2.2.2.2.1,x.1.2.2.2.2.2.2.2.2)).bind fun r=>(m64 (x.2.1,
 x.2.2.1,x.2.2.2.1,x.2.2.2.2.1,x.2.2.2.2.2.1,x.2.2.2.2.2.2.1,x.2.2.2.2.2.2.2.1,x.2.2.2.2.2.2.2.2.1,x.2.2.2.2.2.2.2.2.2)).bind fun r_1=>some (sltM r
 r_1)
theorem c97:SpecOK Tryz.prog 97 ⟨as97,rs97,m97⟩ :=
 fc tabs63OK [] an97 Tryz.f97 fun x=>by kernel_rfl
def tabs97:Tabs:=Tabs.add tabs63 97 ⟨as97,rs97,m97⟩
theorem tabs97OK:TabOK Tryz.prog tabs97:=TabOK.add tabs63OK c97 Tryz.call97

/-! putlog/putlogref39.Valid -/
def as53:List Ty:=[(.one (.list tR))]
def rs53:List Ty:=[.bool]
def an53:Ann:=.seq (.a) (.seq (.a) (.seq (.seq (.a) (.block (.loop ⟨[(3,.r (.c (.d (.d tI))))],(ra 8 31 ([])),[],[]⟩ [(.exit 0,⟨[],(3::ra 8 31 ([])),[],[]⟩),(.ret,⟨[(2,.r (.c (.d (.d .bool))))],(3::ra 8 31 ([])),[],[]⟩)] (.seq (.a) (.seq (.block (.seq (.a) (.seq (.reg [0,1,3,7,15,7,39,127,255,7,519,7,3591,7687,16383,32767,65535] (ra 0 17 ([])) (za 4 (.s [0] []::za 5 (.s [0] []::za 6 ([])))) (.a)) (.a)))) (.a)))))) (.a)))
def m53:(List (Int×Int×Int×Int×Int×Int×Int×List UInt8×List UInt8))→Option (Bool) :=
 fun x=>bif ltM 40 (lenM x) then some false else (loopM (fun (s:Int)=>bif ltM s (lenM x) then (idxM x s).bind fun r=>(m63 (r.1,r.2.1,r.2.2.1,
 r.2.2.2.1,r.2.2.2.2.1,r.2.2.2.2.2.1,r.2.2.2.2.2.2.1,r.2.2.2.2.2.2.2.1,r.2.2.2.2.2.2.2.2)).bind fun r_1=>bif PE.notM r_1 then some (Sum.inr (Sum.inr
 false)) else (bif ltM 0 s then idxM x (wrap .i64 (s-1)) else some (0,0,0,0,0,0,0,[],[])).bind fun r_2=>(bif ltM 0 s then idxM x s else some
 (0,0,0,0,0,0,0,[],[])).bind fun r_3=>(bif ltM 0 s then m97 ((r_2.1,r_2.2.1,r_2.2.2.1,r_2.2.2.2.1,r_2.2.2.2.2.1,r_2.2.2.2.2.2.1,
 r_2.2.2.2.2.2.2.1,r_2.2.2.2.2.2.2.2.1,r_2.2.2.2.2.2.2.2.2),r_3.1,r_3.2.1,r_3.2.2.1,r_3.2.2.2.1,r_3.2.2.2.2.1,r_3.2.2.2.2.2.1,r_3.2.2.2.2.2.2.1,
 r_3.2.2.2.2.2.2.2.1,r_3.2.2.2.2.2.2.2.2) else some false).bind fun r=>bif PE.andM (ltM 0 s) (PE.notM r) then some (Sum.inr (Sum.inr false)) else some
 (Sum.inl (wrap .i64 (s+1))) else some (Sum.inr (Sum.inl ()))) 0).bind fun o=>Sum.elim (fun (t:Unit)=>some true) (fun (t:Bool)=>some t) o
theorem c53:SpecOK Tryz.prog 53 ⟨as53,rs53,m53⟩ :=
 fc tabs97OK [] an53 Tryz.f53 fun x=>by kernel_rfl
def tabs53:Tabs:=Tabs.add tabs97 53 ⟨as53,rs53,m53⟩
theorem tabs53OK:TabOK Tryz.prog tabs53:=TabOK.add tabs97OK c53 Tryz.call53

/-! putlog/putlogref02.Leaf -/
def as94:List Ty:=[.str]
def rs94:List Ty:=[.str]
def an94:Ann:=.a
def m94:List UInt8→Option (List UInt8) :=
 fun x=>(catM [(0:UInt8)] x).bind fun r=>(m52 r).bind fun r=>some r
theorem c94:SpecOK Tryz.prog 94 ⟨as94,rs94,m94⟩ :=
 fc tabs53OK [] an94 Tryz.f94 fun x=>by kernel_rfl
def tabs94:Tabs:=Tabs.add tabs53 94 ⟨as94,rs94,m94⟩
theorem tabs94OK:TabOK Tryz.prog tabs94:=TabOK.add tabs53OK c94 Tryz.call94

/-! putlog/putlogref02.Node -/
def as93:List Ty:=[.str,.str]
def rs93:List Ty:=[.str]
def an93:Ann:=.a
def m93:(List UInt8×List UInt8)→Option (List UInt8) :=
 fun x=>(catM [(1:UInt8)] x.1).bind fun r=>(catM r x.2).bind fun r_1=>(m52 r_1).bind fun r=>some r
theorem c93:SpecOK Tryz.prog 93 ⟨as93,rs93,m93⟩ :=
 fc tabs94OK [] an93 Tryz.f93 fun x=>by kernel_rfl
def tabs93:Tabs:=Tabs.add tabs94 93 ⟨as93,rs93,m93⟩
theorem tabs93OK:TabOK Tryz.prog tabs93:=TabOK.add tabs94OK c93 Tryz.call93

/-! putlog/putlogref39.tag -/
def as51:List Ty:=[.str,tR]
def rs51:List Ty:=[.str]
def an51:Ann:=.a
def m51:(List UInt8×Int×Int×Int×Int×Int×Int×Int×List UInt8×List UInt8)→Option (List UInt8) :=
 fun x=>(m43 (x.2.1,x.2.2.1,x.2.2.2.1,x.2.2.2.2.1,x.2.2.2.2.2.1,x.2.2.2.2.2.2.1,x.2.2.2.2.2.2.2.1,x.2.2.2.2.2.2.2.2.1,x.2.2.2.2.2.2.2.2.2)).bind fun r
 => (m94 r).bind fun r_1=>(m93 (x.1,r_1)).bind fun r=>some r
theorem c51:SpecOK Tryz.prog 51 ⟨as51,rs51,m51⟩ :=
 fc tabs93OK [] an51 Tryz.f51 fun x=>by kernel_rfl
def tabs51:Tabs:=Tabs.add tabs93 51 ⟨as51,rs51,m51⟩
theorem tabs51OK:TabOK Tryz.prog tabs51:=TabOK.add tabs93OK c51 Tryz.call51

/-! putlog/putlogref39.Write -/
def as49:List Ty:=[.str,(.one (.list tR)),tR]
def rs49:List Ty:=[tR,tI]
def an49:Ann:=.a
def m49:(List UInt8×(List (Int×Int×Int×Int×Int×Int×Int×List UInt8×List UInt8))×Int×Int×Int×Int×Int×Int×Int×List UInt8×List UInt8)→Option ((Int×Int×Int×Int×Int×Int×Int×List UInt8×List UInt8)×Int) :=
 fun x=>(bif PE.notM (PE.notM (eqM (lenM x.1) 32)) then m53 x.2.1 else some false).bind fun r=>bif PE.orM (PE.notM (eqM (lenM x.1) 32)) (PE.notM r) then some
 ((0,0,0,0,0,0,0,[],[]),390) else (m47 (x.2.1,x.2.2.1)).bind fun r_1=>(m63 (x.2.2.1,lenM r_1.1,x.2.2.2.2.1,x.2.2.2.2.2.1,x.2.2.2.2.2.2.1,
 x.2.2.2.2.2.2.2.1,x.2.2.2.2.2.2.2.2.1,r_1.2,r_1.2)).bind fun r_2=>bif PE.notM r_2 then some ((0,0,0,0,0,0,0,[],[]),390) else (m51 (x.1,x.2.2.1,
 lenM r_1.1,x.2.2.2.2.1,x.2.2.2.2.2.1,x.2.2.2.2.2.2.1,x.2.2.2.2.2.2.2.1,x.2.2.2.2.2.2.2.2.1,r_1.2,r_1.2)).bind fun r=>some ((x.2.2.1,lenM r_1.1,
 x.2.2.2.2.1,x.2.2.2.2.2.1,x.2.2.2.2.2.2.1,x.2.2.2.2.2.2.2.1,x.2.2.2.2.2.2.2.2.1,r_1.2,r),0)
theorem c49:SpecOK Tryz.prog 49 ⟨as49,rs49,m49⟩ :=
 fc tabs51OK [] an49 Tryz.f49 fun x=>by kernel_rfl
def tabs49:Tabs:=Tabs.add tabs51 49 ⟨as49,rs49,m49⟩
theorem tabs49OK:TabOK Tryz.prog tabs49:=TabOK.add tabs51OK c49 Tryz.call49

/-! putlog/putlogref39.has -/
def as98:List Ty:=[(.list tR),tR]
def rs98:List Ty:=[.bool]
def an98:Ann:=.seq (.a) (.seq (.seq (.a) (.block (.loop ⟨[(5,.r (.c (.d (.d tI))))],(ra 6 12 ([])),[],[]⟩ [(.exit 0,⟨[],(ra 5 13 ([])),[],[]⟩),(.ret,⟨[(4,.r (.c (.d (.d .bool))))],(ra 5 13 ([])),[],[]⟩)] (.seq (.a) (.seq (.block (.seq (.reg [0,0,3,7,0,31] (ra 0 6 ([])) (za 4 (.s [0] []::z0::[])) (.a)) (.a))) (.a)))))) (.a))
def m98:((List (Int×Int×Int×Int×Int×Int×Int×List UInt8×List UInt8))×Int×Int×Int×Int×Int×Int×Int×List UInt8×List UInt8)→Option (Bool) :=
 fun x=>(loopM (fun (s:Int)=>bif ltM s (lenM x.1) then (idxM x.1 s).bind fun r=>bif PE.andM (eqM r.1 x.2.1) (PE.andM (eqM r.2.1 x.2.2.1) (PE.andM (eqM
 r.2.2.1 x.2.2.2.1) (PE.andM (eqM r.2.2.2.1 x.2.2.2.2.1) (PE.andM (eqM r.2.2.2.2.1 x.2.2.2.2.2.1) (PE.andM (eqM r.2.2.2.2.2.1 x.2.2.2.2.2.2.1) (PE.andM (eqM
 r.2.2.2.2.2.2.1 x.2.2.2.2.2.2.2.1) (PE.andM (eqsM r.2.2.2.2.2.2.2.1 x.2.2.2.2.2.2.2.2.1) (eqsM r.2.2.2.2.2.2.2.2 x.2.2.2.2.2.2.2.2.2)))))))) then some
 (Sum.inr (Sum.inr true)) else some (Sum.inl (wrap .i64 (s+1))) else some (Sum.inr (Sum.inl ()))) 0).bind fun o=>Sum.elim (fun (t:Unit)=>some
 false) (fun (t:Bool)=>some t) o
theorem c98:SpecOK Tryz.prog 98 ⟨as98,rs98,m98⟩ :=
 fc tabs49OK [] an98 Tryz.f98 fun x=>by kernel_rfl
def tabs98:Tabs:=Tabs.add tabs49 98 ⟨as98,rs98,m98⟩
theorem tabs98OK:TabOK Tryz.prog tabs98:=TabOK.add tabs49OK c98 Tryz.call98

/-! putlog/putlogref39.put -/
def as71:List Ty:=[(.list tR),tR]
def rs71:List Ty:=[(.list tR)]
def an71:Ann:=.seq (.a) (.seq (.a) (.seq (.a) (.seq (.block (.loop ⟨[(5,.r (.c (.d (.d tI))))],(ra 10 14 ([])),[],[]⟩ [(.exit 0,⟨[(5,.r (.c (.d (.d tI))))],(ra 10 14 ([])),[],[]⟩)] (.seq (.seq (.reg [0,0,2,7,15,31,31,127,255,31,1023,2047] (ra 0 12 ([])) (za 9 (.s [0] []::z0::z0::[])) (.a)) (.a)) (.a)))) (.seq (.reg [0,0,0,7,0,16,0,0,192,496,1023,2047] (ra 0 12 ([])) (za 4 (.s [0] []::za 7 ([]))) (.a)) (.a)))))
def m71:((List (Int×Int×Int×Int×Int×Int×Int×List UInt8×List UInt8))×Int×Int×Int×Int×Int×Int×Int×List UInt8×List UInt8)→Option (List (Int×Int×Int×Int×Int×Int×Int×List UInt8×List UInt8)) :=
 fun x=>(m98 (x.1,x.2.1,x.2.2.1,x.2.2.2.1,x.2.2.2.2.1,x.2.2.2.2.2.1,x.2.2.2.2.2.2.1,x.2.2.2.2.2.2.2.1,x.2.2.2.2.2.2.2.2.1,x.2.2.2.2.2.2.2.2.2)).bind
 fun r=>bif r then some x.1 else (loopM (fun (s:Int)=>(bif ltM s (lenM x.1) then idxM x.1 s else some (0,0,0,0,0,0,0,[],[])).bind fun r_1=>(bif
 ltM s (lenM x.1) then m97 ((r_1.1,r_1.2.1,r_1.2.2.1,r_1.2.2.2.1,r_1.2.2.2.2.1,r_1.2.2.2.2.2.1,r_1.2.2.2.2.2.2.1,r_1.2.2.2.2.2.2.2.1,
 r_1.2.2.2.2.2.2.2.2),x.2.1,x.2.2.1,x.2.2.2.1,x.2.2.2.2.1,x.2.2.2.2.2.1,x.2.2.2.2.2.2.1,x.2.2.2.2.2.2.2.1,x.2.2.2.2.2.2.2.2.1,x.2.2.2.2.2.2.2.2.2)
 else some false).bind fun r=>bif PE.andM (ltM s (lenM x.1)) r then some (Sum.inl (wrap .i64 (s+1))) else some (Sum.inr s)) 0).bind fun o=>((sameM
 o o).bind fun (x_1:Unit)=>sliceM x.1 0 o).bind fun r_1=>(sliceM x.1 o (lenM x.1)).bind fun r_2=>(appM (nat_lit 88) [(x.2.1,x.2.2.1,x.2.2.2.1,
 x.2.2.2.2.1,x.2.2.2.2.2.1,x.2.2.2.2.2.2.1,x.2.2.2.2.2.2.2.1,x.2.2.2.2.2.2.2.2.1,x.2.2.2.2.2.2.2.2.2)] r_2).bind fun r_3=>(appM (nat_lit 88) r_1
 r_3).bind fun r=>some r
theorem c71:SpecOK Tryz.prog 71 ⟨as71,rs71,m71⟩ :=
 fc tabs98OK [] an71 Tryz.f71 fun x=>by kernel_rfl
def tabs71:Tabs:=Tabs.add tabs98 71 ⟨as71,rs71,m71⟩
theorem tabs71OK:TabOK Tryz.prog tabs71:=TabOK.add tabs98OK c71 Tryz.call71

/-! putlog/putlogref39.Merge -/
def as58:List Ty:=[(.one (.list tR)),(.one (.list tR))]
def rs58:List Ty:=[(.one (.list tR)),tI]
def an58:Ann:=.seq (.a) (.seq (.a) (.seq (.a) (.seq (.seq (.a) (.block (.loop ⟨[(6,.r (.c (.d (.d (.list tR))))),(7,.r (.c (.d (.d tI))))],(ra 21 14 ([])),[(3,.gone)],[]⟩ [(.exit 0,⟨[(6,.r (.c (.d (.d (.list tR)))))],(7::ra 21 14 ([])),[(3,.gone)],[]⟩)] (.a)))) (.a))))
def m58:((List (Int×Int×Int×Int×Int×Int×Int×List UInt8×List UInt8))×List (Int×Int×Int×Int×Int×Int×Int×List UInt8×List UInt8))→Option ((List (Int×Int×Int×Int×Int×Int×Int×List UInt8×List UInt8))×Int) :=
 fun x=>(m53 x.1).bind fun r=>(bif PE.notM (PE.notM r) then m53 x.2 else some false).bind fun r_1=>bif PE.orM (PE.notM r) (PE.notM r_1) then some ([],390)
 else (appM (nat_lit 88) [] x.1).bind fun r_2=>(loopM (fun (s:List (Int×Int×Int×Int×Int×Int×Int×List UInt8×List UInt8)×Int)=>bif ltM
 s.2 (lenM x.2) then (idxM x.2 s.2).bind fun r_3=>(m71 (s.1,r_3.1,r_3.2.1,r_3.2.2.1,r_3.2.2.2.1,r_3.2.2.2.2.1,r_3.2.2.2.2.2.1,r_3.2.2.2.2.2.2.1,
 r_3.2.2.2.2.2.2.2.1,r_3.2.2.2.2.2.2.2.2)).bind fun r=>some (Sum.inl (r,wrap .i64 (s.2+1))) else some (Sum.inr s.1)) (r_2,0)).bind fun o=>bif
 ltM 40 (lenM o) then some ([],390) else some (o,0)
theorem c58:SpecOK Tryz.prog 58 ⟨as58,rs58,m58⟩ :=
 fc tabs71OK [] an58 Tryz.f58 fun x=>by kernel_rfl
def tabs58:Tabs:=Tabs.add tabs71 58 ⟨as58,rs58,m58⟩
theorem tabs58OK:TabOK Tryz.prog tabs58:=TabOK.add tabs71OK c58 Tryz.call58

/-! putlog/putlogref39.Add -/
def as50:List Ty:=[(.one (.list tR)),tR]
def rs50:List Ty:=[(.one (.list tR)),tI]
def an50:Ann:=.a
def m50:((List (Int×Int×Int×Int×Int×Int×Int×List UInt8×List UInt8))×Int×Int×Int×Int×Int×Int×Int×List UInt8×List UInt8)→Option ((List (Int×Int×Int×Int×Int×Int×Int×List UInt8×List UInt8))×Int) :=
 fun x=>(m58 (x.1,[(x.2.1,x.2.2.1,x.2.2.2.1,x.2.2.2.2.1,x.2.2.2.2.2.1,x.2.2.2.2.2.2.1,x.2.2.2.2.2.2.2.1,x.2.2.2.2.2.2.2.2.1,
 x.2.2.2.2.2.2.2.2.2)])).bind fun r=>some (r.1,r.2)
theorem c50:SpecOK Tryz.prog 50 ⟨as50,rs50,m50⟩ :=
 fc tabs58OK [] an50 Tryz.f50 fun x=>by kernel_rfl
def tabs50:Tabs:=Tabs.add tabs58 50 ⟨as50,rs50,m50⟩
theorem tabs50OK:TabOK Tryz.prog tabs50:=TabOK.add tabs58OK c50 Tryz.call50

/-! putlog/putlogref39.Made -/
def as12:List Ty:=[(.list (.pair tI tC))]
abbrev rso12:Ty:=tR
def ano12:Ann:=.seq (.a) (.seq (.a) (.seq (.a) (.seq (.seq (.a) (.block (.loop ⟨[(3,.r (.c (.h 1))),(5,.r (.c (.d (.d tI))))],(ra 6 56 ([])),[(0,.box [.d (.d (.list tR))])],[.arr tR]⟩ [(.exit 0,⟨[(3,.r (.c (.h 1)))],(ra 5 57 ([])),[(0,.box [.d (.d (.list tR))])],[.arr tR]⟩)] (.seq (.a) (.seq (.join [(.norm,⟨[(3,.r (.c (.h 2)))],(6::7::8::9::ra 20 42 ([])),[(0,.box [.d (.d (.list tR))]),(1,.gone)],[.arr tR]⟩)] (.block (.seq (.reg [0,0,0,6,14,30,62,127,255,511,511,1023,4095] (ra 0 13 ([])) (.s [0] []::za 12 ([])) (.a)) (.seq (.reg [0,0,3,7,15,31,63,0,0,0,768,1792,0,4096,16255,32767,65535,131071,131071,0,786431,2097151] (ra 0 22 ([])) (za 7 (.s [0] []::za 11 (.s [] [2]::.s [2] [2]::z0::[]))) (.a)) (.a))))) (.a)))))) (.a))))
def mo12:(List (Int×Int×Int×Int×Int×Int))→Option (List (Int×Int×Int×Int×Int×Int×Int×List UInt8×List UInt8)) :=
 fun x=>(loopM (fun (s:Int×List (Int×Int×Int×Int×Int×Int×Int×List UInt8×List UInt8)×List (Int×Int×Int×Int×Int×Int×Int×List
 UInt8×List UInt8))=>bif PE.andM (ltM s.1 (lenM x)) (ltM s.1 16) then ((idxM x s.1).bind fun r=>(m48 (r.1,4)).bind fun r_1=>(m47 (s.2.1,r_1)).bind
 fun r_2=>(idxM x s.1).bind fun r_3=>(m48 (r_3.1,4)).bind fun r_4=>(m17 r_4).bind fun r_5=>(idxM x s.1).bind fun r_6=>(m35 ((r_6.1,r_6.2.1,
 r_6.2.2.1,r_6.2.2.2.1,r_6.2.2.2.2.1,r_6.2.2.2.2.2),lenM r_2.1)).bind fun r_7=>(m49 (r_5,s.2.1,r_7.1,r_7.2.1,r_7.2.2.1,r_7.2.2.2.1,r_7.2.2.2.2.1,
 r_7.2.2.2.2.2.1,r_7.2.2.2.2.2.2.1,r_7.2.2.2.2.2.2.2.1,r_7.2.2.2.2.2.2.2.2)).bind fun r_8=>bif eqM r_8.2 0 then (appM (nat_lit 88) s.2.2 [(r_8.1.1,
 r_8.1.2.1,r_8.1.2.2.1,r_8.1.2.2.2.1,r_8.1.2.2.2.2.1,r_8.1.2.2.2.2.2.1,r_8.1.2.2.2.2.2.2.1,r_8.1.2.2.2.2.2.2.2.1,r_8.1.2.2.2.2.2.2.2.2)]).bind fun r_9
 => (m50 (s.2.1,r_8.1.1,r_8.1.2.1,r_8.1.2.2.1,r_8.1.2.2.2.1,r_8.1.2.2.2.2.1,r_8.1.2.2.2.2.2.1,r_8.1.2.2.2.2.2.2.1,r_8.1.2.2.2.2.2.2.2.1,
 r_8.1.2.2.2.2.2.2.2.2)).bind fun r=>some (r.1,r_9) else some (s.2.1,s.2.2)).bind fun o=>some (Sum.inl (wrap .i64 (s.1+1),o.1,o.2)) else some
 (Sum.inr (s.2.1,s.2.2))) (0,[],[])).bind fun o=>some o.2
theorem co12:OwnOK Tryz.prog 12 ⟨as12,rso12,mo12⟩ :=
 fnOw_ok (own:=[]) (an:=ano12) (n:=400) tabs50OK (F:=OPS) OPS_sound OPS_nice (f:=12) (fn:=Tryz.f12) (code:=Tryz.f12.body.getD .skip) (by kernel_rfl) (by kernel_rfl) (by kernel_rfl) Tryz.call12 fun x=>by kernel_rfl
def tabsO12:Tabs:=Tabs.addOw tabs50 12 ⟨as12,rso12,mo12⟩
theorem tabsO12OK:TabOK Tryz.prog tabsO12:=TabOK.addOw tabs50OK co12

/-! putlog/putloglaw39.pick -/
def as14:List Ty:=[tI,tI]
def rs14:List Ty:=[tI]
def an14:Ann:=.seq (.a) (.seq (.join [(.norm,⟨[(0,.r (.c (.d (.d tI))))],[5,6,7,8,9],[],[]⟩)] (.a)) (.a))
def m14:(Int×Int)→Option (Int) :=
 fun x=>(bif ltM x.1 0 then some (wrap .i64 (negM (wrap .i64 (x.1+1)))) else some x.1).bind fun o=>(remM o x.2).bind fun r=>some r
theorem c14:SpecOK Tryz.prog 14 ⟨as14,rs14,m14⟩ :=
 fc tabsO12OK [] an14 Tryz.f14 fun x=>by kernel_rfl
def tabs14:Tabs:=Tabs.add tabsO12 14 ⟨as14,rs14,m14⟩
theorem tabs14OK:TabOK Tryz.prog tabs14:=TabOK.add tabsO12OK c14 Tryz.call14

/-! putlog/putlogref39.Fork -/
def as13:List Ty:=[tR,tI,tI]
def rs13:List Ty:=[tR]
def an13:Ann:=.seq (.a) (.seq (.join [(.norm,⟨[],(ra 7 23 ([])),[(0,.box [.d (.d tI),.d (.d tI),.d (.d tI),.d (.d tI),.d (.d tI),.d (.d tI),.d (.d tI),.d (.d .str),.d (.d .str)])],[]⟩)] (.seq (.a) (.block (.seq (.a) (.cond (.reg [0,1,3,0,8,31,63,127,255] (ra 0 9 ([])) (z0::.s [0] []::za 6 (.s [0] [0]::[])) (.a)) (.a)))))) (.seq (.reg [0,1,3,0,15,31,63] (ra 0 7 ([])) [z0,.s [0] [],z0,.s [0] [],z0,z0,.s [0] [0]] (.a)) (.a)))
def m13:((Int×Int×Int×Int×Int×Int×Int×List UInt8×List UInt8)×Int×Int)→Option (Int×Int×Int×Int×Int×Int×Int×List UInt8×List UInt8) :=
 fun x=>((m48 (x.2.1,3)).bind fun r=>bif eqM r 0 then (m48 (x.2.2,800000)).bind fun r_1=>(remM (wrap .i64 (wrap .i64 (x.1.2.2.1+1) +
 r_1)) 800001).bind fun r=>some (x.1.1,x.1.2.1,r,x.1.2.2.2.1,x.1.2.2.2.2.1,x.1.2.2.2.2.2.1,x.1.2.2.2.2.2.2.1,x.1.2.2.2.2.2.2.2.1,x.1.2.2.2.2.2.2.2.2)
 else bif eqM r 1 then (m48 (x.2.2,100)).bind fun r=>some (x.1.1,x.1.2.1,x.1.2.2.1,1,9,r,(-1),x.1.2.2.2.2.2.2.2.1,x.1.2.2.2.2.2.2.2.2) else (m17
 x.2.2).bind fun r=>some (x.1.1,x.1.2.1,x.1.2.2.1,x.1.2.2.2.1,x.1.2.2.2.2.1,x.1.2.2.2.2.2.1,x.1.2.2.2.2.2.2.1,r,x.1.2.2.2.2.2.2.2.2)).bind fun o =>
 (m17 o.1).bind fun r=>(m51 (r,o.1,o.2.1,o.2.2.1,o.2.2.2.1,o.2.2.2.2.1,o.2.2.2.2.2.1,o.2.2.2.2.2.2.1,o.2.2.2.2.2.2.2.1,o.2.2.2.2.2.2.2.2)).bind fun
 r=>some (o.1,o.2.1,o.2.2.1,o.2.2.2.1,o.2.2.2.2.1,o.2.2.2.2.2.1,o.2.2.2.2.2.2.1,o.2.2.2.2.2.2.2.1,r)
theorem c13:SpecOK Tryz.prog 13 ⟨as13,rs13,m13⟩ :=
 fc tabs14OK [] an13 Tryz.f13 fun x=>by kernel_rfl
def tabs13:Tabs:=Tabs.add tabs14 13 ⟨as13,rs13,m13⟩
theorem tabs13OK:TabOK Tryz.prog tabs13:=TabOK.add tabs14OK c13 Tryz.call13

/-! putlog/putlogref39.Some -/
def as16:List Ty:=[(.list tR),tI]
def rs16:List Ty:=[(.list tR)]
def an16:Ann:=.seq (.a) (.seq (.a) (.seq (.seq (.a) (.block (.loop ⟨[(5,.r (.c (.h 0))),(6,.r (.c (.d (.d tI))))],(ra 7 20 ([])),[],[.arr tR]⟩ [(.exit 0,⟨[(5,.r (.c (.h 0)))],(ra 6 21 ([])),[],[.arr tR]⟩)] (.seq (.a) (.seq (.join [(.norm,⟨[(5,.r (.c (.h 1)))],(ra 13 14 ([])),[(0,.gone)],[.arr tR]⟩)] (.a)) (.a)))))) (.a)))
def m16:((List (Int×Int×Int×Int×Int×Int×Int×List UInt8×List UInt8))×Int)→Option (List (Int×Int×Int×Int×Int×Int×Int×List UInt8×List UInt8)) :=
 fun x=>(loopM (fun (s:Int×List (Int×Int×Int×Int×Int×Int×Int×List UInt8×List UInt8))=>bif ltM s.1 (lenM x.1) then ((m48 (x.2,
 1048576)).bind fun r=>(remM s.1 20).bind fun r_1=>(shrM .i64 r r_1).bind fun r_2=>(remM r_2 2).bind fun r_3=>bif eqM r_3 1 then (idxM x.1
 s.1).bind fun r_4=>(appM (nat_lit 88) s.2 [(r_4.1,r_4.2.1,r_4.2.2.1,r_4.2.2.2.1,r_4.2.2.2.2.1,r_4.2.2.2.2.2.1,r_4.2.2.2.2.2.2.1,r_4.2.2.2.2.2.2.2.1,
 r_4.2.2.2.2.2.2.2.2)]).bind fun r=>some r else some s.2).bind fun o=>some (Sum.inl (wrap .i64 (s.1+1),o)) else some (Sum.inr s.2)) (0,[])).bind
 fun o=>some o
theorem c16:SpecOK Tryz.prog 16 ⟨as16,rs16,m16⟩ :=
 fc tabs13OK [] an16 Tryz.f16 fun x=>by kernel_rfl
def tabs16:Tabs:=Tabs.add tabs13 16 ⟨as16,rs16,m16⟩
theorem tabs16OK:TabOK Tryz.prog tabs16:=TabOK.add tabs13OK c16 Tryz.call16

/-! putlog/putlogref39.Of -/
def as15:List Ty:=[(.list tR)]
def rs15:List Ty:=[(.one (.list tR))]
def an15:Ann:=.seq (.a) (.seq (.a) (.seq (.seq (.a) (.block (.loop ⟨[(4,.r (.c (.d (.d tI))))],(ra 5 20 ([])),[(1,.box [.d (.d (.list tR))])],[]⟩ [(.exit 0,⟨[],(ra 4 21 ([])),[(1,.box [.d (.d (.list tR))])],[]⟩)] (.seq (.a) (.seq (.join [(.norm,⟨[],(5::6::ra 13 12 ([])),[(1,.box [.d (.d (.list tR))])],[]⟩)] (.block (.seq (.reg [0,0,0,6,14,31,63,127,127,0,767,2047] (ra 0 12 ([])) (.s [1] []::za 8 (.s [] [2]::.s [2] [2]::z0::[])) (.a)) (.a)))) (.a)))))) (.a)))
def m15:(List (Int×Int×Int×Int×Int×Int×Int×List UInt8×List UInt8))→Option (List (Int×Int×Int×Int×Int×Int×Int×List UInt8×List UInt8)) :=
 fun x=>(loopM (fun (s:Int×List (Int×Int×Int×Int×Int×Int×Int×List UInt8×List UInt8))=>bif ltM s.1 (lenM x) then ((idxM x s.1).bind fun r
 => (m50 (s.2,r.1,r.2.1,r.2.2.1,r.2.2.2.1,r.2.2.2.2.1,r.2.2.2.2.2.1,r.2.2.2.2.2.2.1,r.2.2.2.2.2.2.2.1,r.2.2.2.2.2.2.2.2)).bind fun r=>bif eqM r.2 0
 then some r.1 else some s.2).bind fun o=>some (Sum.inl (wrap .i64 (s.1+1),o)) else some (Sum.inr s.2)) (0,[])).bind fun o=>some o
theorem c15:SpecOK Tryz.prog 15 ⟨as15,rs15,m15⟩ :=
 fc tabs16OK [] an15 Tryz.f15 fun x=>by kernel_rfl
def tabs15:Tabs:=Tabs.add tabs16 15 ⟨as15,rs15,m15⟩
theorem tabs15OK:TabOK Tryz.prog tabs15:=TabOK.add tabs16OK c15 Tryz.call15
end
end Go.Proofs.YtdnabfadigkjgaaGreatDoor
namespace Go.PE
open Go Go.RowKit Go.Abs
variable [db:DB]
theorem SpecOK_none {P:Program} {f:FuncId} {args res:List Ty}:SpecOK P f ⟨args,res,fun _=>none⟩:=fun x r hr=>by cases hr
end Go.PE
namespace Go.Proofs.YtdnabfadigkjgaaGreatDoor
open Go Go.Abs Go.PE Go.Proofs
open Go.IntKind (wrap)
set_option maxRecDepth 100000
noncomputable section

/-! putlog/putlogref39.Genuine -/
def as54:List Ty:=[.str,tR]
def rs54:List Ty:=[.bool]
def an54:Ann:=.seq (.a) (.seq (.reg [0,1,3,7,15,31,63,127,255,511,255,255,3327,8191,16383,32767] (ra 0 16 ([])) (za 4 (.s [0] []::za 4 (.s [0] []::z0::.s [0] []::za 4 ([])))) (.a)) (.a))
def m54:(List UInt8×Int×Int×Int×Int×Int×Int×Int×List UInt8×List UInt8)→Option (Bool) :=
 fun x=>(bif eqM (lenM x.1) 32 then m63 (x.2.1,x.2.2.1,x.2.2.2.1,x.2.2.2.2.1,x.2.2.2.2.2.1,x.2.2.2.2.2.2.1,x.2.2.2.2.2.2.2.1,x.2.2.2.2.2.2.2.2.1,
 x.2.2.2.2.2.2.2.2.2) else some false).bind fun r=>(bif PE.andM (eqM (lenM x.1) 32) r then m51 (x.1,x.2.1,x.2.2.1,x.2.2.2.1,x.2.2.2.2.1,x.2.2.2.2.2.1,
 x.2.2.2.2.2.2.1,x.2.2.2.2.2.2.2.1,x.2.2.2.2.2.2.2.2.1,x.2.2.2.2.2.2.2.2.2) else some []).bind fun r_1=>some (PE.andM (PE.andM (eqM (lenM x.1) 32) r)
 (eqsM x.2.2.2.2.2.2.2.2.2 r_1))
theorem c54:SpecOK Tryz.prog 54 ⟨as54,rs54,m54⟩ :=
 fc tabs15OK [] an54 Tryz.f54 fun x=>by kernel_rfl
def tabs54:Tabs:=Tabs.add tabs15 54 ⟨as54,rs54,m54⟩
theorem tabs54OK:TabOK Tryz.prog tabs54:=TabOK.add tabs15OK c54 Tryz.call54

/-! putlog/putlogref39.Believed -/
def as55:List Ty:=[(.one (.list tR)),tI]
def rs55:List Ty:=[(.list tR)]
def an55:Ann:=.a
def m55:((List (Int×Int×Int×Int×Int×Int×Int×List UInt8×List UInt8))×Int)→Option (List (Int×Int×Int×Int×Int×Int×Int×List UInt8×List UInt8)) :=
 fun x=>(m53 x.1).bind fun r=>bif PE.notM r then some [] else (m47 (x.1,x.2)).bind fun r=>some r.1
theorem c55:SpecOK Tryz.prog 55 ⟨as55,rs55,m55⟩ :=
 fc tabs54OK [] an55 Tryz.f55 fun x=>by kernel_rfl
def tabs55:Tabs:=Tabs.add tabs54 55 ⟨as55,rs55,m55⟩
theorem tabs55OK:TabOK Tryz.prog tabs55:=TabOK.add tabs54OK c55 Tryz.call55

/-! putlog/putlogref39.Current -/
def as56:List Ty:=[(.one (.list tR))]
def rs56:List Ty:=[(.list tR)]
def an56:Ann:=.seq (.a) (.seq (.a) (.seq (.a) (.seq (.seq (.a) (.block (.loop ⟨[(3,.r (.c (.h 1))),(4,.r (.c (.d (.d tI))))],(ra 5 8 (ra 16 110 ([]))),[],[.arr tR]⟩ [(.exit 0,⟨[(3,.r (.c (.h 1)))],(ra 4 9 (ra 16 110 ([]))),[],[.arr tR]⟩)] (.seq (.a) (.seq (.block (.seq (.a) (.block (.loop ⟨[(3,.r (.c (.h 2))),(5,.r (.c (.d (.d tI))))],(ra 6 7 (ra 20 106 ([]))),[(1,.gone)],[.arr tR]⟩ [(.exit 2,⟨[(3,.r (.c (.h 2)))],(ra 5 8 (ra 20 106 ([]))),[(1,.gone)],[.arr tR]⟩)] (.seq (.a) (.seq (.join [(.norm,⟨[(3,.r (.c (.h 3)))],(ra 6 7 (ra 24 102 ([]))),[(2,.gone)],[.arr tR]⟩)] (.block (.seq (.a) (.seq (.seq (.a) (.block (.loop ⟨[(6,.r (.c (.d (.d .bool)))),(7,.r (.c (.d (.d tI))))],(ra 24 28 ([])),[],[]⟩ [(.exit 4,⟨[(6,.r (.c (.d (.d .bool))))],(7::ra 24 28 ([])),[],[]⟩)] (.a)))) (.seq (.a) (.seq (.a) (.seq (.a) (.seq (.seq (.a) (.block (.loop ⟨[(11,.r (.c (.d (.d tI))))],(ra 66 24 ([])),[(3,.arr .bool)],[]⟩ [(.exit 6,⟨[],(11::ra 66 24 ([])),[(3,.arr .bool)],[]⟩)] (.seq (.a) (.seq (.join [(.norm,⟨[],(ra 70 20 ([])),[(3,.arr .bool)],[]⟩)] (.a)) (.a)))))) (.seq (.a) (.block (.loop ⟨[(12,.r (.c (.d (.d tI))))],(ra 93 26 ([])),[],[]⟩ [(.exit 8,⟨[(3,.r (.c (.h 4)))],(12::ra 93 33 ([])),[(2,.gone)],[.arr tR]⟩)] (.a)))))))))))) (.a))))))) (.a)))))) (.a))))
def m56:(List (Int×Int×Int×Int×Int×Int×Int×List UInt8×List UInt8))→Option (List (Int×Int×Int×Int×Int×Int×Int×List UInt8×List UInt8)) :=
 fun x=>(m53 x).bind fun r=>bif PE.notM r then some [] else (loopM (fun (s:Int×List (Int×Int×Int×Int×Int×Int×Int×List UInt8×List UInt8))
 => bif leM s.1 99 then (loopM (fun (s_1:Int×List (Int×Int×Int×Int×Int×Int×Int×List UInt8×List UInt8))=>bif leM s_1.1 7 then ((loopM (fun
 (s_2:Bool×Int)=>bif ltM s_2.2 (lenM x) then (bif PE.notM s_2.1 then idxM x s_2.2 else some (0,0,0,0,0,0,0,[],[])).bind fun r_1=>(bif PE.andM
 (PE.notM s_2.1) (eqM r_1.1 s_1.1) then idxM x s_2.2 else some (0,0,0,0,0,0,0,[],[])).bind fun r=>some (Sum.inl (PE.orM s_2.1 (PE.andM (eqM r_1.1
 s_1.1) (eqM r.2.2.2.2.1 s.1)),wrap .i64 (s_2.2+1))) else some (Sum.inr s_2.1)) (false,0)).bind fun o=>bif PE.notM o then some s_1.2 else (m47 (x,
 s_1.1)).bind fun r_1=>(mkM (lenM r_1.1) (lenM r_1.1) (nat_lit 1) false).bind fun r_2=>(loopM (fun (s_2:Int×List Bool)=>bif leM 0 s_2.1 then ((idxM
 r_1.1 s_2.1).bind fun r_3=>(bif eqM r_3.2.2.2.1 2 then chkM s_2.1 (lenM s_2.2) else some ()).bind fun r_4=>(bif eqM r_3.2.2.2.1 2 then idxM s_2.2 s_2.1
 else some false).bind fun r_5=>bif PE.andM (eqM r_3.2.2.2.1 2) (PE.notM r_5) then (idxM r_1.1 s_2.1).bind fun r_6=>(chkM r_6.2.2.2.2.2.2.1 (lenM
 s_2.2)).bind fun r_7=>(setM s_2.2 r_6.2.2.2.2.2.2.1 fun (x:Bool)=>some true).bind fun r=>some r else some s_2.2).bind fun o=>some (Sum.inl (wrap
 IntKind.i64 (s_2.1-1),o)) else some (Sum.inr s_2.2)) (wrap .i64 (lenM r_1.1-1),r_2)).bind fun o_1=>(loopM (fun (s_2:Int)=>bif leM 0 s_2
 then (idxM r_1.1 s_2).bind fun r_3=>(bif eqM r_3.2.2.2.1 1 then idxM r_1.1 s_2 else some (0,0,0,0,0,0,0,[],[])).bind fun r_4=>(bif PE.andM (eqM
 r_3.2.2.2.1 1) (eqM r_4.2.2.2.2.1 s.1) then chkM s_2 (lenM o_1) else some ()).bind fun r_5=>(bif PE.andM (eqM r_3.2.2.2.1 1) (eqM r_4.2.2.2.2.1 s.1) then
 idxM o_1 s_2 else some false).bind fun r_6=>bif PE.andM (PE.andM (eqM r_3.2.2.2.1 1) (eqM r_4.2.2.2.2.1 s.1)) (PE.notM r_6) then (idxM r_1.1 s_2).bind fun
 r_7=>(appM (nat_lit 88) s_1.2 [(r_7.1,r_7.2.1,r_7.2.2.1,r_7.2.2.2.1,r_7.2.2.2.2.1,r_7.2.2.2.2.2.1,r_7.2.2.2.2.2.2.1,r_7.2.2.2.2.2.2.2.1,
 r_7.2.2.2.2.2.2.2.2)]).bind fun r=>some (Sum.inr r) else some (Sum.inl (wrap .i64 (s_2-1))) else some (Sum.inr s_1.2)) (wrap .i64 (lenM
 r_1.1-1))).bind fun o=>some o).bind fun o=>some (Sum.inl (wrap .i64 (s_1.1+1),o)) else some (Sum.inr s_1.2)) (0,s.2)).bind fun o=>some
 (Sum.inl (wrap .i64 (s.1+1),o)) else some (Sum.inr s.2)) (0,[])).bind fun o=>some o
theorem c56:SpecOK Tryz.prog 56 ⟨as56,rs56,m56⟩ :=
 fc tabs55OK [] an56 Tryz.f56 fun x=>by kernel_rfl
def tabs56:Tabs:=Tabs.add tabs55 56 ⟨as56,rs56,m56⟩
theorem tabs56OK:TabOK Tryz.prog tabs56:=TabOK.add tabs55OK c56 Tryz.call56

/-! putlog/putlogref39.Forks -/
def as57:List Ty:=[(.one (.list tR))]
def rs57:List Ty:=[tQ]
def an57:Ann:=.seq (.a) (.seq (.a) (.seq (.a) (.seq (.seq (.a) (.block (.loop ⟨[(3,.r (.c (.h 1))),(4,.r (.c (.d (.d tI))))],(5::ra 9 57 ([])),[],[.arr tP]⟩ [(.exit 0,⟨[(3,.r (.c (.h 1)))],(4::5::ra 9 57 ([])),[],[.arr tP]⟩)] (.seq (.a) (.seq (.join [(.norm,⟨[(3,.r (.c (.h 2)))],(5::ra 16 50 ([])),[(1,.gone)],[.arr tP]⟩)] (.block (.seq (.a) (.seq (.seq (.reg [0,1,0,4,0,16,60,124,252,511,1023,2047,4095,2047,10239,2047,34815,124927,255999,518143,1048575,2097151] (ra 0 22 ([])) (z0::.s [2] []::z0::.s [0] []::za 8 (.s [2] []::z0::.s [0] []::za 7 ([]))) (.a)) (.a)) (.seq (.reg [0,1,3,7,15,15,47,111,255,511,1023,15,2063,8191,16383] (ra 0 15 ([])) (z0::.s [1] []::za 4 (.s [1] []::z0::.s [1] []::z0::.s [1] []::z0::.s [2] []::z0::z0::[])) (.a)) (.a)))))) (.a)))))) (.a))))
def m57:(List (Int×Int×Int×Int×Int×Int×Int×List UInt8×List UInt8))→Option (List (Int×Int)) :=
 fun x=>(m53 x).bind fun r=>bif PE.notM r then some [] else (loopM (fun (s:Int×List (Int×Int))=>bif ltM s.1 (lenM x) then ((idxM x s.1).bind fun r_1
 => (idxM x (wrap .i64 (s.1-1))).bind fun r_2=>(bif PE.notM (PE.notM (eqM r_1.1 r_2.1)) then idxM x (wrap .i64 (s.1-1)) else some (0,0,0,
 0,0,0,0,[],[])).bind fun r_3=>bif PE.orM (PE.notM (eqM r_1.1 r_2.1)) (PE.notM (eqM r_1.2.1 r_3.2.1)) then some s.2 else (bif PE.notM (eqM (lenM s.2) 0)
 then chkM (wrap .i64 (lenM s.2-1)) (lenM s.2) else some ()).bind fun r_4=>(bif PE.notM (eqM (lenM s.2) 0) then (idxM s.2 (wrap .i64 (lenM
 s.2-1))).bind fun (x:Int×Int)=>some x.1 else some 0).bind fun r_5=>bif PE.orM (eqM (lenM s.2) 0) (PE.notM (eqM r_5 r_1.1)) then (appM (nat_lit 16)
 s.2 [(r_1.1,r_1.2.1)]).bind fun r=>some r else some s.2).bind fun o=>some (Sum.inl (wrap .i64 (s.1+1),o)) else some (Sum.inr s.2)) (1,
 [])).bind fun o=>some o
theorem c57:SpecOK Tryz.prog 57 ⟨as57,rs57,m57⟩ :=
 fc tabs56OK [] an57 Tryz.f57 fun x=>by kernel_rfl
def tabs57:Tabs:=Tabs.add tabs56 57 ⟨as57,rs57,m57⟩
theorem tabs57OK:TabOK Tryz.prog tabs57:=TabOK.add tabs56OK c57 Tryz.call57

/-! putlog/putlogref39.Missing -/
def as59:List Ty:=[(.one (.list tR)),(.one (.list tR))]
def rs59:List Ty:=[(.list tR),tI]
def an59:Ann:=.seq (.a) (.seq (.a) (.seq (.a) (.seq (.seq (.a) (.block (.loop ⟨[(6,.r (.c (.h 2))),(7,.r (.c (.d (.d tI))))],(ra 16 24 ([])),[],[.arr tR]⟩ [(.exit 0,⟨[(6,.r (.c (.h 2)))],(7::ra 16 24 ([])),[],[.arr tR]⟩)] (.seq (.a) (.seq (.join [(.norm,⟨[(6,.r (.c (.h 3)))],(ra 23 17 ([])),[(2,.gone)],[.arr tR]⟩)] (.block (.seq (.reg [0,1,0,4,0,28,60,127,255] (ra 0 9 ([])) (z0::.s [1] []::z0::.s [0] []::za 5 ([])) (.a)) (.a)))) (.a)))))) (.a))))
def m59:((List (Int×Int×Int×Int×Int×Int×Int×List UInt8×List UInt8))×List (Int×Int×Int×Int×Int×Int×Int×List UInt8×List UInt8))→Option ((List (Int×Int×Int×Int×Int×Int×Int×List UInt8×List UInt8))×Int) :=
 fun x=>(m53 x.1).bind fun r=>(bif PE.notM (PE.notM r) then m53 x.2 else some false).bind fun r_1=>bif PE.orM (PE.notM r) (PE.notM r_1) then some ([],390)
 else (loopM (fun (s:Int×List (Int×Int×Int×Int×Int×Int×Int×List UInt8×List UInt8))=>bif ltM s.1 (lenM x.1) then ((idxM x.1 s.1).bind fun
 r_2=>(m98 (x.2,r_2.1,r_2.2.1,r_2.2.2.1,r_2.2.2.2.1,r_2.2.2.2.2.1,r_2.2.2.2.2.2.1,r_2.2.2.2.2.2.2.1,r_2.2.2.2.2.2.2.2.1,r_2.2.2.2.2.2.2.2.2)).bind
 fun r_3=>bif PE.notM r_3 then (idxM x.1 s.1).bind fun r_4=>(appM (nat_lit 88) s.2 [(r_4.1,r_4.2.1,r_4.2.2.1,r_4.2.2.2.1,r_4.2.2.2.2.1,
 r_4.2.2.2.2.2.1,r_4.2.2.2.2.2.2.1,r_4.2.2.2.2.2.2.2.1,r_4.2.2.2.2.2.2.2.2)]).bind fun r=>some r else some s.2).bind fun o=>some (Sum.inl (wrap
 IntKind.i64 (s.1+1),o)) else some (Sum.inr s.2)) (0,[])).bind fun o=>some (o,0)
theorem c59:SpecOK Tryz.prog 59 ⟨as59,rs59,m59⟩ :=
 fc tabs57OK [] an59 Tryz.f59 fun x=>by kernel_rfl
def tabs59:Tabs:=Tabs.add tabs57 59 ⟨as59,rs59,m59⟩
theorem tabs59OK:TabOK Tryz.prog tabs59:=TabOK.add tabs57OK c59 Tryz.call59

/-! putlog/putlogref39.Encodings -/
def as46:List Ty:=[(.one (.list tR))]
def rs46:List Ty:=[(.list .str)]
def an46:Ann:=.seq (.a) (.seq (.a) (.seq (.seq (.a) (.block (.loop ⟨[(3,.r (.c (.h 1))),(4,.r (.c (.d (.d tI))))],(ra 5 16 ([])),[],[.arr .str]⟩ [(.exit 0,⟨[(3,.r (.c (.h 1)))],(ra 4 17 ([])),[],[.arr .str]⟩)] (.a)))) (.a)))
def m46:(List (Int×Int×Int×Int×Int×Int×Int×List UInt8×List UInt8))→Option (List (List UInt8)) :=
 fun x=>(loopM (fun (s:Int×List (List UInt8))=>bif ltM s.1 (lenM x) then (idxM x s.1).bind fun r=>(m64 (r.1,r.2.1,r.2.2.1,r.2.2.2.1,r.2.2.2.2.1,
 r.2.2.2.2.2.1,r.2.2.2.2.2.2.1,r.2.2.2.2.2.2.2.1,r.2.2.2.2.2.2.2.2)).bind fun r_1=>(appM (nat_lit 16) s.2 [r_1]).bind fun r=>some (Sum.inl (wrap
 IntKind.i64 (s.1+1),r)) else some (Sum.inr s.2)) (0,[])).bind fun o=>some o
theorem c46:SpecOK Tryz.prog 46 ⟨as46,rs46,m46⟩ :=
 fc tabs59OK [] an46 Tryz.f46 fun x=>by kernel_rfl
def tabs46:Tabs:=Tabs.add tabs59 46 ⟨as46,rs46,m46⟩
theorem tabs46OK:TabOK Tryz.prog tabs46:=TabOK.add tabs59OK c46 Tryz.call46

/-! putlog/putlogref02.Left -/
def as89:List Ty:=[tI]
def rs89:List Ty:=[tI]
def an89:Ann:=.seq (.a) (.seq (.a) (.seq (.block (.loop ⟨[(3,.r (.c (.d (.d tI))))],(ra 4 7 ([])),[],[]⟩ [(.exit 0,⟨[(3,.r (.c (.d (.d tI))))],(ra 4 7 ([])),[],[]⟩)] (.a))) (.a)))
def m89:Int→Option (Int) :=
 fun x=>(loopM (fun (s:Int)=>bif ltM s (wrap .i64 (x-s)) then some (Sum.inl (wrap .i64 (2*s))) else some (Sum.inr s)) 1).bind fun o =>
 some o
theorem c89:SpecOK Tryz.prog 89 ⟨as89,rs89,m89⟩ :=
 fc tabs46OK [] an89 Tryz.f89 fun x=>by kernel_rfl
def tabs89:Tabs:=Tabs.add tabs46 89 ⟨as89,rs89,m89⟩
theorem tabs89OK:TabOK Tryz.prog tabs89:=TabOK.add tabs46OK c89 Tryz.call89

/-! putlog/putlogref02.Root -/
def as90:List Ty:=[(.list .str)]
def rs90:List Ty:=[.str]
def an90:Ann:=.seq (.a) (.seq (.a) (.seq (.a) (.seq (.a) (.seq (.reg [0,0,3,7,0,0,48,127,255,511] (ra 0 10 ([])) (za 10 ([])) (.a)) (.a)))))
def mR90 (m90:List (List UInt8)→Option (List UInt8)):List (List UInt8)→Option (List UInt8) :=
 fun x=>bif eqM (lenM x) 0 then (m52 []).bind fun r=>some r else bif eqM (lenM x) 1 then (idxM x 0).bind fun r=>(m94 r).bind fun r=>some r else (m89
 (lenM x)).bind fun r=>(sliceM x 0 r).bind fun r_1=>(m90 r_1).bind fun r_2=>(sliceM x r (lenM x)).bind fun r_3=>(m90 r_3).bind fun r_4=>(m93 (r_2,
 r_4)).bind fun r=>some r
def mF90 (k:Nat):List (List UInt8)→Option (List UInt8):=Nat.rec (fun _=>none) (fun _ m=>mR90 m) k
def m90:List (List UInt8)→Option (List UInt8):=mF90 64
theorem cF90:∀ k,SpecOK Tryz.prog 90 ⟨as90,rs90,mF90 k⟩
 | 0=>SpecOK_none
 | k+1=>fc (TabOK.add tabs89OK (cF90 k) Tryz.call90) [] an90 Tryz.f90 fun x=>by kernel_rfl
theorem c90:SpecOK Tryz.prog 90 ⟨as90,rs90,m90⟩:=cF90 64
def tabs90:Tabs:=Tabs.add tabs89 90 ⟨as90,rs90,m90⟩
theorem tabs90OK:TabOK Tryz.prog tabs90:=TabOK.add tabs89OK c90 Tryz.call90

/-! putlog/putlogref39.Head -/
def as60:List Ty:=[(.one (.list tR))]
def rs60:List Ty:=[.str,tI]
def an60:Ann:=.a
def m60:(List (Int×Int×Int×Int×Int×Int×Int×List UInt8×List UInt8))→Option (List UInt8×Int) :=
 fun x=>(m53 x).bind fun r=>bif PE.notM r then some ([],390) else (m46 x).bind fun r_1=>(m90 r_1).bind fun r=>some (r,0)
theorem c60:SpecOK Tryz.prog 60 ⟨as60,rs60,m60⟩ :=
 fc tabs90OK [] an60 Tryz.f60 fun x=>by kernel_rfl
def tabs60:Tabs:=Tabs.add tabs90 60 ⟨as60,rs60,m60⟩
theorem tabs60OK:TabOK Tryz.prog tabs60:=TabOK.add tabs90OK c60 Tryz.call60

/-! putlog/putloglaw39.agree -/
def as18:List Ty:=[(.one (.list tR)),(.one (.list tR)),.str,tR,tI]
def rs18:List Ty:=[.bool]
def an18:Ann:=.seq (.a) (.seq (.seq (.reg [0,1,0,7,15,31,63,63,255,63,63,2047,4095,8191,16383,32767,32767,131071,32767,32767,1048575,2097151,4194303,8388607,16777215,33554431,67108863,33554431,268435455,536870911,1073741823,2147483647,4294967295,8589934591,17179869183,8589934591,68719476735,137438953471,274877906943,549755813887] (ra 0 40 ([])) (.s [0] []::z0::.s [0] []::za 4 (.s [2] []::z0::z0::.s [2] []::za 4 (.s [0] []::z0::z0::.s [0] []::za 6 (.s [0] []::z0::.s [0] []::za 5 (.s [0] []::z0::.s [0] []::za 4 ([])))))) (.a)) (.a)) (.a))
def m18:((List (Int×Int×Int×Int×Int×Int×Int×List UInt8×List UInt8))×(List (Int×Int×Int×Int×Int×Int×Int×List UInt8×List UInt8))×List UInt8×(Int×Int×Int×Int×Int×Int×Int×List UInt8×List UInt8)×Int)→Option (Bool) :=
 fun x=>(m29 x.1).bind fun r=>(m53 x.1).bind fun r_1=>(bif PE.notM (PE.notM (eqbM r r_1)) then m38 (x.2.2.1,x.2.2.2.1.1,x.2.2.2.1.2.1,x.2.2.2.1.2.2.1,
 x.2.2.2.1.2.2.2.1,x.2.2.2.1.2.2.2.2.1,x.2.2.2.1.2.2.2.2.2.1,x.2.2.2.1.2.2.2.2.2.2.1,x.2.2.2.1.2.2.2.2.2.2.2.1,x.2.2.2.1.2.2.2.2.2.2.2.2) else some
 false).bind fun r_2=>(bif PE.notM (PE.notM (eqbM r r_1)) then m54 (x.2.2.1,x.2.2.2.1.1,x.2.2.2.1.2.1,x.2.2.2.1.2.2.1,x.2.2.2.1.2.2.2.1,
 x.2.2.2.1.2.2.2.2.1,x.2.2.2.1.2.2.2.2.2.1,x.2.2.2.1.2.2.2.2.2.2.1,x.2.2.2.1.2.2.2.2.2.2.2.1,x.2.2.2.1.2.2.2.2.2.2.2.2) else some false).bind fun r_3 =>
 (bif PE.notM (PE.orM (PE.notM (eqbM r r_1)) (PE.notM (eqbM r_2 r_3))) then m34 (x.1,x.2.2.2.2) else some []).bind fun r_4=>(bif PE.notM (PE.orM (PE.notM
 (eqbM r r_1)) (PE.notM (eqbM r_2 r_3))) then m55 (x.1,x.2.2.2.2) else some []).bind fun r_5=>(bif PE.notM (PE.orM (PE.notM (eqbM r r_1)) (PE.notM (eqbM r_2
 r_3))) then m26 (r_4,r_5) else some false).bind fun r_6=>(bif PE.notM (PE.orM (PE.orM (PE.notM (eqbM r r_1)) (PE.notM (eqbM r_2 r_3))) (PE.notM r_6)) then
 m33 x.1 else some []).bind fun r_7=>(bif PE.notM (PE.orM (PE.orM (PE.notM (eqbM r r_1)) (PE.notM (eqbM r_2 r_3))) (PE.notM r_6)) then m56 x.1 else some
 []).bind fun r_8=>(bif PE.notM (PE.orM (PE.orM (PE.notM (eqbM r r_1)) (PE.notM (eqbM r_2 r_3))) (PE.notM r_6)) then m26 (r_7,r_8) else some false).bind fun
 r_9=>(bif PE.notM (PE.orM (PE.orM (PE.orM (PE.notM (eqbM r r_1)) (PE.notM (eqbM r_2 r_3))) (PE.notM r_6)) (PE.notM r_9)) then m39 x.1 else some []).bind fun
 r_10=>(bif PE.notM (PE.orM (PE.orM (PE.orM (PE.notM (eqbM r r_1)) (PE.notM (eqbM r_2 r_3))) (PE.notM r_6)) (PE.notM r_9)) then m57 x.1 else some []).bind
 fun r_11=>(bif PE.notM (PE.orM (PE.orM (PE.orM (PE.notM (eqbM r r_1)) (PE.notM (eqbM r_2 r_3))) (PE.notM r_6)) (PE.notM r_9)) then m40 (r_10,r_11) else
 some false).bind fun r_12=>bif PE.orM (PE.orM (PE.orM (PE.orM (PE.notM (eqbM r r_1)) (PE.notM (eqbM r_2 r_3))) (PE.notM r_6)) (PE.notM r_9)) (PE.notM r_12)
 then some false else (m31 (x.1,x.2.2.2.1.1,x.2.2.2.1.2.1,x.2.2.2.1.2.2.1,x.2.2.2.1.2.2.2.1,x.2.2.2.1.2.2.2.2.1,x.2.2.2.1.2.2.2.2.2.1,
 x.2.2.2.1.2.2.2.2.2.2.1,x.2.2.2.1.2.2.2.2.2.2.2.1,x.2.2.2.1.2.2.2.2.2.2.2.2)).bind fun r_13=>(m50 (x.1,x.2.2.2.1.1,x.2.2.2.1.2.1,x.2.2.2.1.2.2.1,
 x.2.2.2.1.2.2.2.1,x.2.2.2.1.2.2.2.2.1,x.2.2.2.1.2.2.2.2.2.1,x.2.2.2.1.2.2.2.2.2.2.1,x.2.2.2.1.2.2.2.2.2.2.2.1,x.2.2.2.1.2.2.2.2.2.2.2.2)).bind fun r_14
 => (m27 (x.1,x.2.1)).bind fun r_15=>(m58 (x.1,x.2.1)).bind fun r_16=>(m28 (x.1,x.2.1)).bind fun r_17=>(m59 (x.1,x.2.1)).bind fun r_18=>(m32
 x.1).bind fun r_19=>(m60 x.1).bind fun r_20=>(m37 (x.2.2.1,x.1,x.2.2.2.1.1,x.2.2.2.1.2.1,x.2.2.2.1.2.2.1,x.2.2.2.1.2.2.2.1,x.2.2.2.1.2.2.2.2.1,
 x.2.2.2.1.2.2.2.2.2.1,x.2.2.2.1.2.2.2.2.2.2.1,x.2.2.2.1.2.2.2.2.2.2.2.1,x.2.2.2.1.2.2.2.2.2.2.2.2)).bind fun r_21=>(m49 (x.2.2.1,x.1,x.2.2.2.1.1,
 x.2.2.2.1.2.1,x.2.2.2.1.2.2.1,x.2.2.2.1.2.2.2.1,x.2.2.2.1.2.2.2.2.1,x.2.2.2.1.2.2.2.2.2.1,x.2.2.2.1.2.2.2.2.2.2.1,x.2.2.2.1.2.2.2.2.2.2.2.1,
 x.2.2.2.1.2.2.2.2.2.2.2.2)).bind fun r_22=>(bif eqM r_13.2 r_14.2 then m26 (r_13.1,r_14.1) else some false).bind fun r_23=>(bif PE.andM (PE.andM (eqM
 r_13.2 r_14.2) r_23) (eqM r_15.2 r_16.2) then m26 (r_15.1,r_16.1) else some false).bind fun r_24=>(bif PE.andM (PE.andM (PE.andM (PE.andM (eqM r_13.2
 r_14.2) r_23) (eqM r_15.2 r_16.2)) r_24) (eqM r_17.2 r_18.2) then m26 (r_17.1,r_18.1) else some false).bind fun r=>some (PE.andM (PE.andM (PE.andM (PE.andM
 (PE.andM (PE.andM (PE.andM (PE.andM (PE.andM (eqM r_13.2 r_14.2) r_23) (eqM r_15.2 r_16.2)) r_24) (eqM r_17.2 r_18.2)) r) (eqsM r_19.1 r_20.1)) (eqM r_19.2
 r_20.2)) (PE.andM (eqM r_21.1.1 r_22.1.1) (PE.andM (eqM r_21.1.2.1 r_22.1.2.1) (PE.andM (eqM r_21.1.2.2.1 r_22.1.2.2.1) (PE.andM (eqM r_21.1.2.2.2.1
 r_22.1.2.2.2.1) (PE.andM (eqM r_21.1.2.2.2.2.1 r_22.1.2.2.2.2.1) (PE.andM (eqM r_21.1.2.2.2.2.2.1 r_22.1.2.2.2.2.2.1) (PE.andM (eqM r_21.1.2.2.2.2.2.2.1
 r_22.1.2.2.2.2.2.2.1) (PE.andM (eqsM r_21.1.2.2.2.2.2.2.2.1 r_22.1.2.2.2.2.2.2.2.1) (eqsM r_21.1.2.2.2.2.2.2.2.2 r_22.1.2.2.2.2.2.2.2.2)))))))))) (eqM r_21.2
 r_22.2))
theorem c18:SpecOK Tryz.prog 18 ⟨as18,rs18,m18⟩ :=
 fc tabs60OK [] an18 Tryz.f18 fun x=>by kernel_rfl
def tabs18:Tabs:=Tabs.add tabs60 18 ⟨as18,rs18,m18⟩
theorem tabs18OK:TabOK Tryz.prog tabs18:=TabOK.add tabs60OK c18 Tryz.call18

/-! putlog/putlogref39.Bent -/
def as19:List Ty:=[(.one (.list tR)),tI,tI,tI,.str]
def rs19:List Ty:=[(.one (.list tR))]
def an19:Ann:=.seq (.a) (.seq (.a) (.seq (.a) (.seq (.a) (.seq (.join [(.norm,⟨[(11,.r (.c (.h 3)))],(ra 32 74 ([])),[(2,.gone)],[.arr tR]⟩)] (.seq (.a) (.block (.seq (.a) (.cond (.a) (.seq (.a) (.cond (.a) (.seq (.a) (.cond (.a) (.seq (.a) (.cond (.a) (.seq (.a) (.cond (.a) (.seq (.a) (.cond (.a) (.seq (.a) (.cond (.a) (.seq (.a) (.cond (.a) (.seq (.a) (.cond (.a) (.seq (.a) (.cond (.a) (.reg [0,0,0,4,12,0,32,96,253,509,1023,2047] (ra 0 12 ([])) (za 4 (.s [2] []::z0::.s [2] []::.s [2] []::.s [2] []::.s [2] [2]::z0::.s [2] [2]::[])) (.a))))))))))))))))))))))))) (.a)))))
def m19:((List (Int×Int×Int×Int×Int×Int×Int×List UInt8×List UInt8))×Int×Int×Int×List UInt8)→Option (List (Int×Int×Int×Int×Int×Int×Int×List UInt8×List UInt8)) :=
 fun x=>(appM (nat_lit 88) [] x.1).bind fun r=>bif eqM (lenM r) 0 then some [(0,x.2.2.1,0,0,0,0,0,x.2.2.2.2,x.2.2.2.2)] else (m48 (x.2.2.2.1,lenM
 r)).bind fun r_1=>(chkM r_1 (lenM r)).bind fun r_2=>((m48 (x.2.1,11)).bind fun r_3=>bif eqM r_3 0 then (setM r r_1 fun (x_1:Int×Int×Int×Int ×
 Int×Int×Int×List UInt8×List UInt8)=>some (x.2.2.1,x_1.2)).bind fun r=>some r else bif eqM r_3 1 then (setM r r_1 fun (x_1:Int×Int×Int×Int
 × Int×Int×Int×List UInt8×List UInt8)=>some (x_1.1,x.2.2.1,x_1.2.2)).bind fun r=>some r else bif eqM r_3 2 then (setM r r_1 fun (x_1:Int×Int
 × Int×Int×Int×Int×Int×List UInt8×List UInt8)=>some (x_1.1,x_1.2.1,x.2.2.1,x_1.2.2.2)).bind fun r=>some r else bif eqM r_3 3 then (setM r
 r_1 fun (x_1:Int×Int×Int×Int×Int×Int×Int×List UInt8×List UInt8)=>some (x_1.1,x_1.2.1,x_1.2.2.1,x.2.2.1,x_1.2.2.2.2)).bind fun r =>
 some r else bif eqM r_3 4 then (setM r r_1 fun (x_1:Int×Int×Int×Int×Int×Int×Int×List UInt8×List UInt8)=>some (x_1.1,x_1.2.1,x_1.2.2.1,
 x_1.2.2.2.1,x.2.2.1,x_1.2.2.2.2.2)).bind fun r=>some r else bif eqM r_3 5 then (setM r r_1 fun (x_1:Int×Int×Int×Int×Int×Int×Int×List UInt8
 × List UInt8)=>some (x_1.1,x_1.2.1,x_1.2.2.1,x_1.2.2.2.1,x_1.2.2.2.2.1,x.2.2.1,x_1.2.2.2.2.2.2)).bind fun r=>some r else bif eqM r_3 6 then (setM r
 r_1 fun (x_1:Int×Int×Int×Int×Int×Int×Int×List UInt8×List UInt8)=>some (x_1.1,x_1.2.1,x_1.2.2.1,x_1.2.2.2.1,x_1.2.2.2.2.1,
 x_1.2.2.2.2.2.1,x.2.2.1,x_1.2.2.2.2.2.2.2)).bind fun r=>some r else bif eqM r_3 7 then (setM r r_1 fun (x_1:Int×Int×Int×Int×Int×Int×Int ×
 List UInt8×List UInt8)=>some (x_1.1,x_1.2.1,x_1.2.2.1,x_1.2.2.2.1,x_1.2.2.2.2.1,x_1.2.2.2.2.2.1,x_1.2.2.2.2.2.2.1,x.2.2.2.2,
 x_1.2.2.2.2.2.2.2.2)).bind fun r=>some r else bif eqM r_3 8 then (setM r r_1 fun (x_1:Int×Int×Int×Int×Int×Int×Int×List UInt8×List UInt8)
 => some (x_1.1,x_1.2.1,x_1.2.2.1,x_1.2.2.2.1,x_1.2.2.2.2.1,x_1.2.2.2.2.2.1,x_1.2.2.2.2.2.2.1,x_1.2.2.2.2.2.2.2.1,x.2.2.2.2)).bind fun r=>some r else
 bif eqM r_3 9 then (idxM r r_1).bind fun r_4=>(appM (nat_lit 88) r [(r_4.1,r_4.2.1,r_4.2.2.1,r_4.2.2.2.1,r_4.2.2.2.2.1,r_4.2.2.2.2.2.1,
 r_4.2.2.2.2.2.2.1,r_4.2.2.2.2.2.2.2.1,r_4.2.2.2.2.2.2.2.2)]).bind fun r=>some r else (idxM r r_1).bind fun r_4=>(chkM 0 (lenM r)).bind fun r_5=>(idxM
 r 0).bind fun r_6=>(chkM 0 (lenM r)).bind fun r_7=>(setM r 0 fun (x:Int×Int×Int×Int×Int×Int×Int×List UInt8×List UInt8)=>some (r_4.1,
 r_4.2.1,r_4.2.2.1,r_4.2.2.2.1,r_4.2.2.2.2.1,r_4.2.2.2.2.2.1,r_4.2.2.2.2.2.2.1,r_4.2.2.2.2.2.2.2.1,r_4.2.2.2.2.2.2.2.2)).bind fun r_8=>(setM r_8 r_1
 fun (x:Int×Int×Int×Int×Int×Int×Int×List UInt8×List UInt8)=>some (r_6.1,r_6.2.1,r_6.2.2.1,r_6.2.2.2.1,r_6.2.2.2.2.1,r_6.2.2.2.2.2.1,
 r_6.2.2.2.2.2.2.1,r_6.2.2.2.2.2.2.2.1,r_6.2.2.2.2.2.2.2.2)).bind fun r=>some r).bind fun o=>some o
theorem c19:SpecOK Tryz.prog 19 ⟨as19,rs19,m19⟩ :=
 fc tabs18OK [] an19 Tryz.f19 fun x=>by kernel_rfl
def tabs19:Tabs:=Tabs.add tabs18 19 ⟨as19,rs19,m19⟩
theorem tabs19OK:TabOK Tryz.prog tabs19:=TabOK.add tabs18OK c19 Tryz.call19

/-! putlog/putlogref39.Encode -/
def as21:List Ty:=[tR]
def rs21:List Ty:=[.str,tI]
def an21:Ann:=.a
def m21:(Int×Int×Int×Int×Int×Int×Int×List UInt8×List UInt8)→Option (List UInt8×Int) :=
 fun x=>(m63 (x.1,x.2.1,x.2.2.1,x.2.2.2.1,x.2.2.2.2.1,x.2.2.2.2.2.1,x.2.2.2.2.2.2.1,x.2.2.2.2.2.2.2.1,x.2.2.2.2.2.2.2.2)).bind fun r=>bif PE.notM r
 then some ([],390) else (m64 (x.1,x.2.1,x.2.2.1,x.2.2.2.1,x.2.2.2.2.1,x.2.2.2.2.2.1,x.2.2.2.2.2.2.1,x.2.2.2.2.2.2.2.1,x.2.2.2.2.2.2.2.2)).bind fun r
 => some (r,0)
theorem c21:SpecOK Tryz.prog 21 ⟨as21,rs21,m21⟩ :=
 fc tabs19OK [] an21 Tryz.f21 fun x=>by kernel_rfl
def tabs21:Tabs:=Tabs.add tabs19 21 ⟨as21,rs21,m21⟩
theorem tabs21OK:TabOK Tryz.prog tabs21:=TabOK.add tabs19OK c21 Tryz.call21

/-! putlog/putlogref01.Int -/
def as68:List Ty:=[.str,tI]
def rs68:List Ty:=[tI,tI,tI]
def an68:Ann:=.seq (.a) (.seq (.a) (.seq (.a) (.seq (.seq (.a) (.block (.loop ⟨[(7,.r (.c (.d (.d (.int .u64))))),(8,.r (.c (.d (.d tI))))],(9::ra 21 27 ([])),[],[]⟩ [(.exit 0,⟨[],(7::8::9::ra 21 27 ([])),[],[]⟩),(.ret,⟨[(4,.r (.c (.d (.d tI)))),(5,.r (.c (.d (.d tI)))),(6,.r (.c (.d (.d tI))))],(ra 7 6 (ra 21 59 ([]))),[],[]⟩)] (.seq (.a) (.seq (.block (.seq (.a) (.seq (.a) (.seq (.a) (.seq (.a) (.seq (.join [(.norm,⟨[(10,.r (.c (.d (.d tI))))],(ra 51 6 ([])),[],[]⟩)] (.a)) (.a))))))) (.a)))))) (.a))))
def m68:(List UInt8×Int)→Option (Int×Int×Int) :=
 fun x=>bif PE.orM (ltM x.2 0) (ltM (lenM x.1) x.2) then some (0,0,2) else (loopM (fun (s:Int×Int)=>bif PE.andM (ltM s.2 9) (ltM (wrap .i64 (x.2
 + s.2)) (lenM x.1)) then (byteM x.1 (wrap .i64 (x.2+s.2))).bind fun r=>(remM (wrap .u64 r) 128).bind fun r_1=>(shlM .u64 r_1 (wrap
 IntKind.i64 (7*s.2))).bind fun r_2=>bif leM 128 (wrap .u64 r) then some (Sum.inl (wrap .u64 (s.1+r_2),wrap .i64 (s.2+1))) else
 (divM .u64 (wrap .u64 (s.1+r_2)) 2).bind fun r_3=>((remM (wrap .u64 (s.1+r_2)) 2).bind fun r=>bif eqM r 1 then some (wrap
 IntKind.i64 (wrap .i64 (negM (wrap .i64 r_3))-1)) else some (wrap .i64 r_3)).bind fun o=>(m87 o).bind fun r_4=>(bif PE.notM
 (PE.notM (eqM r_4.2 0)) then sliceM x.1 x.2 (wrap .i64 (wrap .i64 (x.2+s.2)+1)) else some []).bind fun r=>bif PE.orM (PE.notM (eqM r_4.2
 0)) (PE.notM (eqsM r_4.1 r)) then some (Sum.inr (Sum.inr (0,0,10))) else some (Sum.inr (Sum.inr (o,wrap .i64 (wrap .i64 (x.2+s.2)+1),
 0))) else some (Sum.inr (Sum.inl ()))) (0,0)).bind fun o=>Sum.elim (fun (t:Unit)=>some (0,0,10)) (fun (t:Int×Int×Int)=>some (t.1,t.2.1,
 t.2.2)) o
theorem c68:SpecOK Tryz.prog 68 ⟨as68,rs68,m68⟩ :=
 fc tabs21OK [] an68 Tryz.f68 fun x=>by kernel_rfl
def tabs68:Tabs:=Tabs.add tabs21 68 ⟨as68,rs68,m68⟩
theorem tabs68OK:TabOK Tryz.prog tabs68:=TabOK.add tabs21OK c68 Tryz.call68

/-! putlog/putlogref01.String -/
def as69:List Ty:=[.str,tI]
def rs69:List Ty:=[.str,tI,tI]
def an69:Ann:=.a
def m69:(List UInt8×Int)→Option (List UInt8×Int×Int) :=
 fun x=>(m68 (x.1,x.2)).bind fun r=>bif PE.notM (eqM r.2.2 0) then some ([],0,r.2.2) else bif PE.orM (PE.orM (ltM r.1 0) (ltM 65536 r.1)) (ltM (wrap
 IntKind.i64 (lenM x.1-r.2.1)) r.1) then some ([],0,10) else (sliceM x.1 r.2.1 (wrap .i64 (r.2.1+r.1))).bind fun r_1=>some (r_1,wrap
 IntKind.i64 (r.2.1+r.1),0)
theorem c69:SpecOK Tryz.prog 69 ⟨as69,rs69,m69⟩ :=
 fc tabs68OK [] an69 Tryz.f69 fun x=>by kernel_rfl
def tabs69:Tabs:=Tabs.add tabs68 69 ⟨as69,rs69,m69⟩
theorem tabs69OK:TabOK Tryz.prog tabs69:=TabOK.add tabs68OK c69 Tryz.call69

/-! putlog/putlogref39.Decode -/
def as23:List Ty:=[.str]
def rs23:List Ty:=[tR,tI]
def an23:Ann:=.seq (.a) (.seq (.a) (.seq (.a) (.seq (.seq (.a) (.block (.seq (.a) (.seq (.a) (.seq (.a) (.seq (.a) (.seq (.a) (.seq (.a) (.seq (.a) (.seq (.a) (.join [] (.a)))))))))))) (.a))))
def m23:List UInt8→Option ((Int×Int×Int×Int×Int×Int×Int×List UInt8×List UInt8)×Int) :=
 fun x=>(m68 (x,0)).bind fun r=>bif PE.notM (eqM r.2.2 0) then some ((0,0,0,0,0,0,0,[],[]),390) else (m68 (x,r.2.1)).bind fun r_1=>bif PE.notM
 (eqM r_1.2.2 0) then some ((0,0,0,0,0,0,0,[],[]),390) else (m68 (x,r_1.2.1)).bind fun r_2=>bif PE.notM (eqM r_2.2.2 0) then some ((0,0,0,0,0,
 0,0,[],[]),390) else (m68 (x,r_2.2.1)).bind fun r_3=>bif PE.notM (eqM r_3.2.2 0) then some ((0,0,0,0,0,0,0,[],[]),390) else (m68 (x,
 r_3.2.1)).bind fun r_4=>bif PE.notM (eqM r_4.2.2 0) then some ((0,0,0,0,0,0,0,[],[]),390) else (m68 (x,r_4.2.1)).bind fun r_5=>bif PE.notM (eqM
 r_5.2.2 0) then some ((0,0,0,0,0,0,0,[],[]),390) else (m68 (x,r_5.2.1)).bind fun r_6=>bif PE.notM (eqM r_6.2.2 0) then some ((0,0,0,0,0,0,0,
 [],[]),390) else (m69 (x,r_6.2.1)).bind fun r_7=>bif PE.notM (eqM r_7.2.2 0) then some ((0,0,0,0,0,0,0,[],[]),390) else (m69 (x,r_7.2.1)).bind
 fun r_8=>(bif PE.notM (PE.orM (PE.notM (eqM r_8.2.2 0)) (PE.notM (eqM r_8.2.1 (lenM x)))) then m63 (r.1,r_1.1,r_2.1,r_3.1,r_4.1,r_5.1,r_6.1,r_7.1,
 r_8.1) else some false).bind fun r_9=>bif PE.orM (PE.orM (PE.notM (eqM r_8.2.2 0)) (PE.notM (eqM r_8.2.1 (lenM x)))) (PE.notM r_9) then some ((0,0,0,0,
 0,0,0,[],[]),390) else some ((r.1,r_1.1,r_2.1,r_3.1,r_4.1,r_5.1,r_6.1,r_7.1,r_8.1),0)
theorem c23:SpecOK Tryz.prog 23 ⟨as23,rs23,m23⟩ :=
 fc tabs69OK [] an23 Tryz.f23 fun x=>by kernel_rfl
def tabs23:Tabs:=Tabs.add tabs69 23 ⟨as23,rs23,m23⟩
theorem tabs23OK:TabOK Tryz.prog tabs23:=TabOK.add tabs69OK c23 Tryz.call23

/-! putlog/putlogref39.Load -/
def as25:List Ty:=[(.list .str)]
def rs25:List Ty:=[(.one (.list tR)),tI]
def an25:Ann:=.seq (.a) (.seq (.a) (.seq (.seq (.a) (.block (.loop ⟨[(4,.r (.c (.d (.d (.list tR))))),(5,.r (.c (.d (.d tI))))],(ra 6 21 ([])),[],[]⟩ [(.exit 0,⟨[(4,.r (.c (.d (.d (.list tR)))))],(ra 5 22 ([])),[],[]⟩)] (.seq (.a) (.seq (.join [(.norm,⟨[(4,.r (.c (.d (.d (.list tR)))))],(6::7::ra 14 13 ([])),[],[]⟩)] (.a)) (.a)))))) (.a)))
def m25:List (List UInt8)→Option ((List (Int×Int×Int×Int×Int×Int×Int×List UInt8×List UInt8))×Int) :=
 fun x=>(loopM (fun (s:List (Int×Int×Int×Int×Int×Int×Int×List UInt8×List UInt8)×Int)=>bif ltM s.2 (lenM x) then ((idxM x s.2).bind fun r
 => (m23 r).bind fun r_1=>bif eqM r_1.2 0 then (m71 (s.1,r_1.1.1,r_1.1.2.1,r_1.1.2.2.1,r_1.1.2.2.2.1,r_1.1.2.2.2.2.1,r_1.1.2.2.2.2.2.1,
 r_1.1.2.2.2.2.2.2.1,r_1.1.2.2.2.2.2.2.2.1,r_1.1.2.2.2.2.2.2.2.2)).bind fun r=>some r else some s.1).bind fun o=>some (Sum.inl (o,wrap .i64 (s.2
 + 1))) else some (Sum.inr s.1)) ([],0)).bind fun o=>bif ltM 40 (lenM o) then some ([],390) else some (o,0)
theorem c25:SpecOK Tryz.prog 25 ⟨as25,rs25,m25⟩ :=
 fc tabs23OK [] an25 Tryz.f25 fun x=>by kernel_rfl
def tabs25:Tabs:=Tabs.add tabs23 25 ⟨as25,rs25,m25⟩
theorem tabs25OK:TabOK Tryz.prog tabs25:=TabOK.add tabs23OK c25 Tryz.call25

/-! putlog/putloglaw39.ArchiveMatchesReference -/
def as3:List Ty:=[(.list (.pair tI tC)),tI,tI,tB,tB,(.list tR),tR,.str,tI,tI,(.int .u8),.str]
def rs3:List Ty:=[.bool]
def an3:Ann:=.seq (.a) (.seq (.a) (.seq (.a) (.seq (.a) (.seq (.join [(.norm,⟨[(26,.r (.c (.h 4)))],(ra 60 19 ([])),[(3,.gone)],[.arr tR]⟩)] (.seq (.a) (.cond (.reg [0,0,0,4,0,16,60,126,254,0,512,0,2048,8190,16382,32767,65535] (ra 0 17 ([])) (za 3 (.s [0] []::z0::.s [3] []::z0::.s [3] []::.s [3] []::z0::.s [0] []::z0::.s [0] []::z0::z0::.s [3] [4,3]::z0::[])) (.a)) (.a)))) (.seq (.a) (.seq (.a) (.seq (.a) (.seq (.seq (.a) (.block (.loop ⟨[(30,.r (.c (.d (.d tI))))],(31::ra 87 36 ([])),[(7,.box [.h 8])],[.arr tR]⟩ [(.exit 0,⟨[],(30::31::ra 87 36 ([])),[(7,.box [.h 8])],[.arr tR]⟩)] (.a)))) (.seq (.a) (.seq (.a) (.seq (.a) (.seq (.a) (.seq (.a) (.seq (.join [(.norm,⟨[],(ra 148 10 ([])),[(9,.box [.d (.d tI),.d (.d tI),.d (.d tI),.d (.d tI),.d (.d tI),.d (.d tI),.d (.d tI),.d (.d .str),.d (.d .str)])],[]⟩)] (.a)) (.seq (.seq (.reg [0,0,0,0,0,16,63,127,255,511,511,511,511,511,16383,32767,65535,131071,262143,262143,786431,262143,2359295,262143,8650751,262143,67108863,262143,262143,262143,262143,1207959551,4294967295,8589934591,17179869183,34359738367,68719476735,68719476735,68719476735,68719476735,68719476735,1168231104511,4398046511103,8796093022207,17592186044415] (ra 0 45 ([])) (.s [5] []::.s [6] []::z0::.s [9] []::za 5 (.s [6] []::.s [7] []::z0::.s [2] []::z0::.s [8] []::za 3 (.s [5] []::z0::.s [1] []::z0::.s [1] []::z0::.s [1] []::z0::z0::.s [6] []::z0::.s [9] []::za 6 (.s [7] []::.s [5] []::z0::.s [2] []::z0::z0::.s [8] []::z0::z0::[])))) (.a)) (.a)) (.seq (.a) (.seq (.seq (.a) (.block (.loop ⟨[(34,.r (.c (.h 10))),(35,.r (.c (.d (.d tI))))],(36::37::38::39::ra 203 37 ([])),[],[.arr .str]⟩ [(.exit 2,⟨[(34,.r (.c (.h 10)))],(35::36::37::38::39::ra 203 37 ([])),[],[.arr .str]⟩),(.ret,⟨[(24,.r (.c (.d (.d .bool))))],(ra 34 6 (ra 203 37 ([]))),[],[]⟩)] (.a)))) (.seq (.a) (.seq (.a) (.seq (.a) (.seq (.a) (.seq (.join [(.norm,⟨[(34,.r (.c (.h 12)))],(45::ra 259 35 ([])),[(11,.gone)],[.arr .str]⟩)] (.seq (.a) (.cond (.seq (.reg [0,1,0,0,12,28,60,127,255] (ra 0 9 ([])) (z0::.s [0] []::z0::z0::.s [11] []::.s [11] []::za 3 ([])) (.a)) (.reg [0,0,0,6,14,0,62,0,128,384,1022,0,0,6144,14336,0,32768,129024,262142,524286,1048575,2097151] (ra 0 22 ([])) (za 3 (.s [11] []::.s [11] []::za 8 (.s [11] []::.s [11] []::za 5 (.s [11] [12,11]::z0::[])))) (.a))) (.a)))) (.seq (.seq (.a) (.block (.loop ⟨[(46,.r (.c (.d (.d tI))))],(47::48::49::50::ra 294 30 ([])),[],[]⟩ [(.exit 4,⟨[],(46::47::48::49::50::ra 294 30 ([])),[],[]⟩),(.ret,⟨[(24,.r (.c (.d (.d .bool))))],(46::47::48::49::50::ra 294 30 ([])),[],[]⟩)] (.a)))) (.a))))))))))))))))))))))))
def m3:((List (Int×Int×Int×Int×Int×Int))×Int×Int×(Int×Int×Int)×(Int×Int×Int)×(List (Int×Int×Int×Int×Int×Int×Int×List UInt8×List UInt8))×(Int×Int×Int×Int×Int×Int×Int×List UInt8×List UInt8)×List UInt8×Int×Int×Int×List UInt8)→Option (Bool) :=
 fun x=>(m11 ()).bind fun r=>bif PE.notM r then some false else (mo12 x.1).bind fun r_1=>(bif ltM 0 (lenM r_1) then (m14 (x.2.2.2.1.1,lenM r_1)).bind fun
 r_2=>(chkM r_2 (lenM r_1)).bind fun r_3=>(idxM r_1 r_2).bind fun r_4=>(m13 ((r_4.1,r_4.2.1,r_4.2.2.1,r_4.2.2.2.1,r_4.2.2.2.2.1,r_4.2.2.2.2.2.1,
 r_4.2.2.2.2.2.2.1,r_4.2.2.2.2.2.2.2.1,r_4.2.2.2.2.2.2.2.2),x.2.2.2.1.2.1,x.2.2.2.1.2.2)).bind fun r_5=>(appM (nat_lit 88) r_1 [(r_5.1,r_5.2.1,
 r_5.2.2.1,r_5.2.2.2.1,r_5.2.2.2.2.1,r_5.2.2.2.2.2.1,r_5.2.2.2.2.2.2.1,r_5.2.2.2.2.2.2.2.1,r_5.2.2.2.2.2.2.2.2)]).bind fun r=>some r else some
 r_1).bind fun o=>(m16 (o,x.2.1)).bind fun r_2=>(m15 r_2).bind fun r_3=>(m16 (o,x.2.2.1)).bind fun r_4=>(m15 r_4).bind fun r_5=>(loopM (fun (s :
 Int×List (Int×Int×Int×Int×Int×Int×Int×List UInt8×List UInt8))=>bif PE.andM (ltM s.1 (lenM x.2.2.2.2.2.1)) (ltM s.1 4) then (idxM
 x.2.2.2.2.2.1 s.1).bind fun r_6=>(sliceM r_6.2.2.2.2.2.2.2.1 0 (min (lenM r_6.2.2.2.2.2.2.2.1) 40)).bind fun r_7=>(sliceM r_6.2.2.2.2.2.2.2.2 0 (min (lenM
 r_6.2.2.2.2.2.2.2.2) 40)).bind fun r_8=>(appM (nat_lit 88) s.2 [(r_6.1,r_6.2.1,r_6.2.2.1,r_6.2.2.2.1,r_6.2.2.2.2.1,r_6.2.2.2.2.2.1,r_6.2.2.2.2.2.2.1,
 r_7,r_8)]).bind fun r=>some (Sum.inl (wrap .i64 (s.1+1),r)) else some (Sum.inr s.2)) (0,[])).bind fun o_1=>(sliceM
 x.2.2.2.2.2.2.1.2.2.2.2.2.2.2.1 0 (min (lenM x.2.2.2.2.2.2.1.2.2.2.2.2.2.2.1) 40)).bind fun r_6=>(sliceM x.2.2.2.2.2.2.1.2.2.2.2.2.2.2.2 0 (min (lenM
 x.2.2.2.2.2.2.1.2.2.2.2.2.2.2.2) 40)).bind fun r_7=>(sliceM x.2.2.2.2.2.2.2.2.2.2.2 0 (min (lenM x.2.2.2.2.2.2.2.2.2.2.2) 100)).bind fun r_8=>(m14
 (x.2.2.2.2.2.2.2.2.1,4)).bind fun r_9=>(m17 r_9).bind fun r_10=>(bif ltM 0 (lenM o) then (m14 (x.2.2.2.2.2.2.2.2.2.1,lenM o)).bind fun r_11=>(idxM o
 r_11).bind fun r=>some (r.1,r.2.1,r.2.2.1,r.2.2.2.1,r.2.2.2.2.1,r.2.2.2.2.2.1,r.2.2.2.2.2.2.1,r.2.2.2.2.2.2.2.1,r.2.2.2.2.2.2.2.2) else some
 (x.2.2.2.2.2.2.1.1,x.2.2.2.2.2.2.1.2.1,x.2.2.2.2.2.2.1.2.2.1,x.2.2.2.2.2.2.1.2.2.2.1,x.2.2.2.2.2.2.1.2.2.2.2.1,x.2.2.2.2.2.2.1.2.2.2.2.2.1,
 x.2.2.2.2.2.2.1.2.2.2.2.2.2.1,r_6,r_7)).bind fun o_2=>(m14 (x.2.2.2.2.2.2.2.2.1,8)).bind fun r_11=>(m18 (r_3,r_5,r_10,(o_2.1,o_2.2.1,o_2.2.2.1,
 o_2.2.2.2.1,o_2.2.2.2.2.1,o_2.2.2.2.2.2.1,o_2.2.2.2.2.2.2.1,o_2.2.2.2.2.2.2.2.1,o_2.2.2.2.2.2.2.2.2),r_11)).bind fun r_12=>(bif PE.notM (PE.notM r_12)
 then m18 (r_5,o_1,x.2.2.2.2.2.2.2.1,(x.2.2.2.2.2.2.1.1,x.2.2.2.2.2.2.1.2.1,x.2.2.2.2.2.2.1.2.2.1,x.2.2.2.2.2.2.1.2.2.2.1,x.2.2.2.2.2.2.1.2.2.2.2.1,
 x.2.2.2.2.2.2.1.2.2.2.2.2.1,x.2.2.2.2.2.2.1.2.2.2.2.2.2.1,r_6,r_7),x.2.2.2.2.2.2.2.2.1) else some false).bind fun r_13=>(bif PE.notM (PE.orM (PE.notM
 r_12) (PE.notM r_13)) then m19 (r_3,x.2.2.2.2.1.1,x.2.2.2.2.1.2.1,x.2.2.2.2.1.2.2,r_8) else some []).bind fun r_14=>(bif PE.notM (PE.orM (PE.notM r_12)
 (PE.notM r_13)) then m14 (x.2.2.2.2.2.2.2.2.1,8) else some 0).bind fun r_15=>(bif PE.notM (PE.orM (PE.notM r_12) (PE.notM r_13)) then m18 (r_14,r_5,r_10,
 (o_2.1,o_2.2.1,o_2.2.2.1,o_2.2.2.2.1,o_2.2.2.2.2.1,o_2.2.2.2.2.2.1,o_2.2.2.2.2.2.2.1,o_2.2.2.2.2.2.2.2.1,o_2.2.2.2.2.2.2.2.2),r_15) else some
 false).bind fun r_16=>(bif PE.notM (PE.orM (PE.orM (PE.notM r_12) (PE.notM r_13)) (PE.notM r_16)) then m14 (x.2.2.2.2.2.2.2.2.1,8) else some 0).bind fun
 r_17=>(bif PE.notM (PE.orM (PE.orM (PE.notM r_12) (PE.notM r_13)) (PE.notM r_16)) then m18 (o_1,r_3,r_10,(x.2.2.2.2.2.2.1.1,x.2.2.2.2.2.2.1.2.1,
 x.2.2.2.2.2.2.1.2.2.1,x.2.2.2.2.2.2.1.2.2.2.1,x.2.2.2.2.2.2.1.2.2.2.2.1,x.2.2.2.2.2.2.1.2.2.2.2.2.1,x.2.2.2.2.2.2.1.2.2.2.2.2.2.1,r_6,r_7),r_17) else
 some false).bind fun r_18=>bif PE.orM (PE.orM (PE.orM (PE.notM r_12) (PE.notM r_13)) (PE.notM r_16)) (PE.notM r_18) then some false else (loopM (fun (s :
 Int×List (List UInt8))=>bif ltM s.1 (lenM r_3) then (idxM r_3 s.1).bind fun r_19=>(m20 (r_19.1,r_19.2.1,r_19.2.2.1,r_19.2.2.2.1,r_19.2.2.2.2.1,
 r_19.2.2.2.2.2.1,r_19.2.2.2.2.2.2.1,r_19.2.2.2.2.2.2.2.1,r_19.2.2.2.2.2.2.2.2)).bind fun r_20=>(idxM r_3 s.1).bind fun r_21=>(m21 (r_21.1,r_21.2.1,
 r_21.2.2.1,r_21.2.2.2.1,r_21.2.2.2.2.1,r_21.2.2.2.2.2.1,r_21.2.2.2.2.2.2.1,r_21.2.2.2.2.2.2.2.1,r_21.2.2.2.2.2.2.2.2)).bind fun r_22=>bif PE.orM
 (PE.notM (eqM r_20.2 r_22.2)) (PE.notM (eqsM r_20.1 r_22.1)) then some (Sum.inr (Sum.inr false)) else (appM (nat_lit 16) s.2 [r_22.1]).bind fun r=>some
 (Sum.inl (wrap .i64 (s.1+1),r)) else some (Sum.inr (Sum.inl s.2))) (0,[])).bind fun o_3=>Sum.elim (fun (t:List (List UInt8))=>(m20
 (x.2.2.2.2.2.2.1.1,x.2.2.2.2.2.2.1.2.1,x.2.2.2.2.2.2.1.2.2.1,x.2.2.2.2.2.2.1.2.2.2.1,x.2.2.2.2.2.2.1.2.2.2.2.1,x.2.2.2.2.2.2.1.2.2.2.2.2.1,
 x.2.2.2.2.2.2.1.2.2.2.2.2.2.1,r_6,r_7)).bind fun r_19=>(m21 (x.2.2.2.2.2.2.1.1,x.2.2.2.2.2.2.1.2.1,x.2.2.2.2.2.2.1.2.2.1,x.2.2.2.2.2.2.1.2.2.2.1,
 x.2.2.2.2.2.2.1.2.2.2.2.1,x.2.2.2.2.2.2.1.2.2.2.2.2.1,x.2.2.2.2.2.2.1.2.2.2.2.2.2.1,r_6,r_7)).bind fun r_20=>(appM (nat_lit 16) t [r_20.1,r_8]).bind
 fun r_21=>(m14 (x.2.2.2.2.2.2.2.2.2.1,lenM r_21)).bind fun r_22=>((chkM r_22 (lenM r_21)).bind fun r_23=>(idxM r_21 r_22).bind fun r_24=>bif ltM 0
 (lenM r_24) then (chkM r_22 (lenM r_21)).bind fun r_25=>(idxM r_21 r_22).bind fun r_26=>(m14 (x.2.2.2.1.2.2,lenM r_26)).bind fun r_27=>(chkM r_22 (lenM
 r_21)).bind fun r_28=>(idxM r_21 r_22).bind fun r_29=>(sliceM r_29 0 r_27).bind fun r_30=>(catM r_30 (strB [x.2.2.2.2.2.2.2.2.2.2.1])).bind fun r_31 =>
 (chkM r_22 (lenM r_21)).bind fun r_32=>(idxM r_21 r_22).bind fun r_33=>(sliceM r_33 (wrap .i64 (r_27+1)) (lenM r_33)).bind fun r_34=>(catM r_31
 r_34).bind fun r_35=>(appM (nat_lit 16) r_21 [r_35]).bind fun r=>some r else some r_21).bind fun o_4=>(loopM (fun (s:Int)=>bif ltM s (lenM o_4) then
 (chkM s (lenM o_4)).bind fun r_23=>(idxM o_4 s).bind fun r_24=>(m22 r_24).bind fun r_25=>(chkM s (lenM o_4)).bind fun r_26=>(idxM o_4 s).bind fun r_27
 => (m23 r_27).bind fun r=>bif PE.orM (PE.notM (PE.andM (eqM r_25.1.1 r.1.1) (PE.andM (eqM r_25.1.2.1 r.1.2.1) (PE.andM (eqM r_25.1.2.2.1 r.1.2.2.1) (PE.andM
 (eqM r_25.1.2.2.2.1 r.1.2.2.2.1) (PE.andM (eqM r_25.1.2.2.2.2.1 r.1.2.2.2.2.1) (PE.andM (eqM r_25.1.2.2.2.2.2.1 r.1.2.2.2.2.2.1) (PE.andM (eqM
 r_25.1.2.2.2.2.2.2.1 r.1.2.2.2.2.2.2.1) (PE.andM (eqsM r_25.1.2.2.2.2.2.2.2.1 r.1.2.2.2.2.2.2.2.1) (eqsM r_25.1.2.2.2.2.2.2.2.2 r.1.2.2.2.2.2.2.2.2))))))))))
 (PE.notM (eqM r_25.2 r.2)) then some (Sum.inr (Sum.inr false)) else some (Sum.inl (wrap .i64 (s+1))) else some (Sum.inr (Sum.inl ()))) 0).bind fun
 o_5=>Sum.elim (fun (t_1:Unit)=>(m24 o_4).bind fun r_23=>(m25 o_4).bind fun r_24=>(bif PE.andM (PE.andM (PE.andM r (eqsM r_19.1 r_20.1)) (eqM r_19.2
 r_20.2)) (eqM r_23.2 r_24.2) then m26 (r_23.1,r_24.1) else some false).bind fun r_25=>some (PE.andM (PE.andM (PE.andM (PE.andM r (eqsM r_19.1 r_20.1)) (eqM
 r_19.2 r_20.2)) (eqM r_23.2 r_24.2)) r_25)) (fun (t:Bool)=>some t) o_5) (fun (t:Bool)=>some t) o_3
theorem c3:SpecOK Tryz.prog 3 ⟨as3,rs3,m3⟩ :=
 fc (TabOK.drop tabs25OK [12]) [] an3 Tryz.f3 fun x=>by kernel_rfl
def tabs3:Tabs:=Tabs.add tabs25 3 ⟨as3,rs3,m3⟩
theorem tabs3OK:TabOK Tryz.prog tabs3:=TabOK.add tabs25OK c3 Tryz.call3
end
end Go.Proofs.YtdnabfadigkjgaaGreatDoor

namespace Go.Proofs.YtdnabfadigkjgaaGreatDoor
open Go Go.Lib Go.Abs Go.PE Go.Ar
theorem xorI (a b:Nat):bitM .xor .u32 (a:Int) (b:Int)=((xW a b:Nat):Int):=by
 unfold bitM xW mW
 dsimp only
 rw [BitVec.toNat_xor,bv32,bv32]
 have:=Nat.xor_lt_two_pow (n:=32) (x:=a % 4294967296) (y:=b % 4294967296) (Nat.mod_lt _ (by decide)) (Nat.mod_lt _ (by decide))
 exact wu32_in (by omega) (by omega)
theorem andI (a b:Nat):bitM .and .u32 (a:Int) (b:Int)=((aW a b:Nat):Int):=by
 unfold bitM aW mW
 dsimp only
 rw [BitVec.toNat_and,bv32,bv32]
 have:=Nat.and_lt_two_pow (n:=32) (a % 4294967296) (y:=b % 4294967296) (Nat.mod_lt _ (by decide))
 exact wu32_in (by omega) (by omega)
theorem orI (a b:Nat):bitM .or .u32 (a:Int) (b:Int)=((oW a b:Nat):Int):=by
 unfold bitM oW mW
 dsimp only
 rw [BitVec.toNat_or,bv32,bv32]
 have:=Nat.or_lt_two_pow (n:=32) (x:=a % 4294967296) (y:=b % 4294967296) (Nat.mod_lt _ (by decide)) (Nat.mod_lt _ (by decide))
 exact wu32_in (by omega) (by omega)
theorem cplI (a:Nat):cplM .u32 (a:Int)=((xW 4294967295 a:Nat):Int):=by
 unfold cplM
 rw [show (if IntKind.u32.signed then (-1:Int) else IntKind.u32.max)=((4294967295:Nat):Int) by decide,xorI]
theorem wrapI (a:Nat):IntKind.wrap .u32 (a:Int)=((mW a:Nat):Int):=by rw [wu32];rfl
theorem addI (a b:Nat):IntKind.wrap .u32 ((a:Int)+(b:Int))=((mW (a+b):Nat):Int):=by rw [wu32];rfl
theorem shlI (a:Nat) {n:Int} (k:Nat) (e:n=k) (h:k≤32):shlM .u32 (a:Int) n=some ((shl a k:Nat):Int):=by
 subst e
 rw [shlM_of (k:=.u32) h,wu32]
 unfold shl mW
 congr 1
theorem shrI {k:IntKind} (a:Nat) {n:Int} (j:Nat) (e:n=j) (h:j≤k.bits):shrM k (a:Int) n=some ((shr a j:Nat):Int):=by
 subst e
 rw [shrM_of h]
 unfold shr
 have:((2:Int) ^ j)=((2 ^ j:Nat):Int):=by rw [Int.natCast_pow];rfl
 rw [this,fdiv_nat]
theorem oW_comm (a b:Nat):oW a b=oW b a:=Nat.or_comm _ _
theorem xW_zero (a b:Nat):xW (xW 0 a) b=xW a b:=by
 unfold xW mW
 rw [Nat.zero_mod,Nat.zero_xor,Nat.mod_mod]
theorem loopM_at {σ β:Type} {body:σ→Option (σ⊕β)} {s:σ} (g:Nat→σ) (n:Nat) {r:β} (hs:s=g 0) (h:∀ k,k<n→body (g k)=some (.inl (g (k+1)))) (he:body (g n)=some (.inr r)):loopM body s=some r:=by
 subst hs;exact loopM_fn g n h he
theorem remM_nat' (a b:Nat) (hb:0<b):remM (a:Int) (b:Int)=some ((a % b:Nat):Int):=by rw [remM_of (by omega) (by omega)];rfl
theorem ofNat_mod (n:Nat):UInt8.ofNat ((n:Int) % 256).toNat=UInt8.ofNat n:=by
 rw [show ((n:Int) % 256).toNat=n % 256 by omega]
 apply u8eq;simp
theorem neg31:∀ k:Fin 32,0<k.val→bitM .and .u64 (IntKind.wrap .u64 (IntKind.wrap .i64 (negM (k.val:Int)))) 31=((32-k.val:Nat):Int)∧IntKind.wrap .u64 (32-((32-k.val:Nat):Int))=(k.val:Int):=by decide +kernel
theorem mixed_ok (x:Nat) {l:List Nat} (hl:∀ n∈l,0<n∧n<32) (hn:l.length≤10):m152 ((x:Int),l.map fun n:Nat=>(n:Int))=some ((l.foldl (fun o n=>xW o (rot x n)) 0:Nat):Int):=by
 unfold m152
 dsimp only
 refine bind_of (loopM_fn (fun k=>((((l.take k).foldl (fun o n=>xW o (rot x n)) 0:Nat):Int),(k:Int))) l.length (r:=((l.foldl (fun o n=>xW o (rot x n)) 0:Nat):Int)) (fun k hk=>?_) ?_) rfl
 ·dsimp only
  obtain ⟨h0,h1⟩:=hl l[k] (by simp)
  obtain ⟨e1,e2⟩:=neg31 ⟨l[k],h1⟩ h0
  dsimp only at e1 e2
  rw [lenI,ltI (by simp;omega),cT,idxM_nat,List.getElem?_map,gE hk,Option.map_some,oB,e1,shlI x (32-l[k]) rfl (by omega),oB,e2,shrI x l[k] rfl (by show l[k]≤32;omega),oB,orI,xorI,wrap_in (by omega) (by omega),List.take_add_one,gE hk,Option.toList_some,List.foldl_append,oW_comm]
  rfl
 ·dsimp only
  rw [lenI,geI (by simp),cF,List.take_length]
theorem mixed2 (x n m:Nat) (h1:0<n∧n<32) (h2:0<m∧m<32):m152 ((x:Int),[(n:Int),(m:Int)])=some ((xW (rot x n) (rot x m):Nat):Int):=by
 have:=mixed_ok x (l:=[n,m]) (by simp [h1,h2]) (by simp)
 simp only [List.map_cons,List.map_nil,List.foldl_cons,List.foldl_nil,xW_zero] at this
 exact this
theorem mixed3 (x n m k:Nat) (h1:0<n∧n<32) (h2:0<m∧m<32) (h3:0<k∧k<32):m152 ((x:Int),[(n:Int),(m:Int),(k:Int)])=some ((xW (xW (rot x n) (rot x m)) (rot x k):Nat):Int):=by
 have:=mixed_ok x (l:=[n,m,k]) (by simp [h1,h2,h3]) (by simp)
 simp only [List.map_cons,List.map_nil,List.foldl_cons,List.foldl_nil,xW_zero] at this
 exact this
theorem rot_ok (x n:Nat) (h:n<32):m124 ((x:Int),(n:Int))=some ((rot x n:Nat):Int):=by
 unfold m124
 dsimp only
 rw [shrI x n rfl (by show n≤32;omega),oB,wrap_in (by omega) (by omega),shlI x (32-n) (by omega) (by omega),oB,orI]
 rfl
abbrev iL (l:List Nat):List Int:=l.map fun n:Nat=>(n:Int)
theorem iL_len (l:List Nat):(iL l).length=l.length:=by simp
theorem iL_idx {l:List Nat} {i:Nat} (h:i<l.length):idxM (iL l) (i:Int)=some ((l.getD i 0:Nat):Int):=by
 rw [idxM_nat,List.getElem?_map,gE h];simp [h]
theorem z01 (i:Int):((nat_lit 0:Nat):Int)+i*((nat_lit 1:Nat):Int)=i:=by show 0+i*1=i;omega
theorem set_next {l:List Nat} {k n y:Nat} (h:l.length=k):(l++List.replicate (n+1) 0).set k y=(l++[y])++List.replicate n 0:=by
 subst h
 rw [List.set_append_right _ _ (nR _),Nat.sub_self,List.replicate_succ,List.set_cons_zero,aA];rfl
theorem iL_set {l:List Nat} {j:Int} (i:Nat) (e:j=i) (h:i<l.length) {f:Int→Option Int} {y:Nat} (hf:∀ x,f x=some (y:Int)):setM (iL l) j f=some (iL (l.set i y)):=by
 subst e
 rw [setM_of (by omega) (by rw [iL_len];omega) (hf _)]
 simp [iL]
theorem iL_slice {l:List Nat} {i j:Int} (a b:Nat) (ei:i=a) (ej:j=b) (h:a≤b) (hb:b≤l.length):sliceM (iL l) i j=some (iL ((l.drop a).take (b-a))):=by
 subst ei;subst ej
 rw [sliceM_of (by omega) (by omega) (by rw [iL_len];omega),Int.toNat_natCast,Int.toNat_natCast,List.drop_take,iL,← List.map_drop,← List.map_take]
theorem getD_app {l m:List Nat} {i:Nat} (h:i<l.length):(l++m).getD i 0=l.getD i 0:=by
 rw [List.getD_eq_getElem?_getD,xL h,← List.getD_eq_getElem?_getD]
theorem wMore_succ:∀ (j:Nat) (w:List Nat),wMore (j+1) w=wMore j w++[wNext (wMore j w)]
 | 0,w=>rfl
 | j+1,w=>by
  rw [wMore,wMore_succ j,← wMore]
theorem wMore_len:∀ (j:Nat) (w:List Nat),(wMore j w).length=w.length+j
 | 0,w=>rfl
 | j+1,w=>by rw [wMore,wMore_len j];simp;omega
theorem w16_succ (b:List Nat) (k:Nat):(List.range (k+1)).map (w4 b)=(List.range k).map (w4 b)++[w4 b k]:=by rw [List.range_succ,List.map_append];rfl
theorem rnds_take {l:List (Nat×Nat)} {k:Nat} (hk:k<l.length) (v:List Nat):(l.take (k+1)).foldl rnd v=rnd ((l.take k).foldl rnd v) l[k]:=by
 rw [List.take_add_one,gE hk,Option.toList_some,List.foldl_append];rfl
theorem eight {v:List Nat} (h:v.length=8):∃ a b c d e f g i,v=[a,b,c,d,e,f,g,i]:=by
 match v,h with
 | [a,b,c,d,e,f,g,i],_=>exact ⟨a,b,c,d,e,f,g,i,rfl⟩
def rndsN (b h:List Nat) (k:Nat):List Nat:=((kSha.zip (wAll b)).take k).foldl rnd h
theorem wAll_len (b:List Nat):(wAll b).length=64:=by unfold wAll;rw [wMore_len];simp
theorem kz_len (b:List Nat):(kSha.zip (wAll b)).length=64:=by rw [List.length_zip,wAll_len];rfl
theorem kz_get (b:List Nat) {k:Nat} (h:k<64):(kSha.zip (wAll b))[k]'(by rw [kz_len];exact h)=(kSha.getD k 0,(wAll b).getD k 0):=by
 rw [List.getElem_zip]
 simp [List.getD_eq_getElem?_getD,gE (show k<kSha.length from h),gE (show k<(wAll b).length by rw [wAll_len];exact h)]
theorem rndsN_len (b:List Nat) {h:List Nat} (hh:h.length=8) (k:Nat):(rndsN b h k).length=8:=rnds_len _ _ hh
theorem rndsN_succ (b h:List Nat) {k:Nat} (hk:k<64):rndsN b h (k+1)=rnd (rndsN b h k) (kSha.getD k 0,(wAll b).getD k 0):=by
 unfold rndsN
 rw [rnds_take (by rw [kz_len];exact hk),kz_get b hk]
theorem blk_eq (h b:List Nat):blk h b=List.zipWith (fun x y=>mW (x+y)) h (rndsN b h 64):=by
 unfold blk rndsN
 rw [tkL (by rw [kz_len];exact nR _)]
theorem idx64 {o:List Int} {i:Int} (h:o.length=64):idxM ((List.range 64).map fun k=>nthD o k 0) i=idxM o i:=by
 congr 1
 apply List.ext_getElem?
 intro k
 by_cases hk:k<64
 ·rw [List.getElem?_map,List.getElem?_range hk,gE (by omega)]
  unfold nthD
  simp [List.getD_eq_getElem?_getD,gE (show k<o.length by omega)]
 ·rw [List.getElem?_eq_none (by simp;omega),List.getElem?_eq_none (by omega)]
theorem nth8 {h:List Nat} (hh:h.length=8):[nthD (iL h) (nat_lit 0) 0,nthD (iL h) (nat_lit 1) 0,nthD (iL h) (nat_lit 2) 0,nthD (iL h) (nat_lit 3) 0,nthD (iL h) (nat_lit 4) 0,nthD (iL h) (nat_lit 5) 0,nthD (iL h) (nat_lit 6) 0,nthD (iL h) (nat_lit 7) 0]=iL h:=by
 obtain ⟨a,b,c,d,e,f,g,i,rfl⟩:=eight hh
 rfl
theorem wk (i:Int) {j:Int} (h1:0≤j) (h2:j≤1000) (e:j=i):IntKind.wrap .i64 i=j:=by rw [wrap_in (by omega) (by omega),e]
theorem digest_ok {h:List Nat} (hh:h.length=8):m132 (nthD (iL h) (nat_lit 0) 0,nthD (iL h) (nat_lit 1) 0,nthD (iL h) (nat_lit 2) 0,nthD (iL h) (nat_lit 3) 0,nthD (iL h) (nat_lit 4) 0,nthD (iL h) (nat_lit 5) 0,nthD (iL h) (nat_lit 6) 0,nthD (iL h) (nat_lit 7) 0)=some (wBytes h):=by
 unfold m132
 dsimp only
 rw [nth8 hh]
 let B:Nat→List Nat:=fun x=>[shr x 24 % 256,shr x 16 % 256,shr x 8 % 256,x % 256]
 have hB:∀ l:List Nat,(l.flatMap B).length=4*l.length:=fun l=>by
  induction l with
  | nil=>rfl
  | cons a l ih=>rw [List.flatMap_cons,lA,ih];simp [B];omega
 refine bind_of (loopM_fn (fun k=>((k:Int),iL ((h.take k).flatMap B++List.replicate (32-4*k) 0))) 8 (r:=iL (h.flatMap B)) (fun k hk=>?_) ?_) ?_
 ·dsimp only
  have hP:((h.take k).flatMap B).length=4*k:=by rw [hB,lT];omega
  generalize hp:(h.take k).flatMap B=P at hP
  rw [ltI (by omega),cT,iL_idx (by omega),oB]
  generalize hx:h.getD k 0=x
  refine bind_of (loopM_at (fun j=>((j:Int),iL (P++(B x).take j++List.replicate (32-4*k-j) 0))) 4 (by simp) (r:=iL (P++B x++List.replicate (32-4*k-4) 0)) (fun j hj=>?_) ?_) ?_
  ·dsimp only
   rw [ltI (by omega),cT,wk (8*(j:Int)) (j:=8*(j:Int)) (by omega) (by omega) rfl,wk (24-8*(j:Int)) (j:=((24-8*j:Nat):Int)) (by omega) (by omega) (by omega),shrI x (24-8*j) rfl (by show _≤32;omega),oB,wk (4*(k:Int)) (j:=4*(k:Int)) (by omega) (by omega) rfl,wk (4*(k:Int)+(j:Int)) (j:=((4*k+j:Nat):Int)) (by omega) (by omega) (by omega),chkM_of (by omega) (by show ((4*k+j:Nat):Int)<32;omega),oB,z01]
   have hT:(P++(B x).take j).length=4*k+j:=by rw [lA,hP,lT];simp [B];omega
   rw [iL_set (4*k+j) rfl (by rw [lA,hT,List.length_replicate];omega) (y:=shr x (24-8*j) % 256) (fun _=>by rw [wu8];rfl),oB,wk ((j:Int)+1) (j:=((j+1:Nat):Int)) (by omega) (by omega) (by omega)]
   obtain ⟨m,hm⟩:∃ m,32-4*k-j=m+1:=⟨32-4*k-j-1,by omega⟩
   rw [hm,set_next hT,show 32-4*k-(j+1)=m by omega]
   have e:(B x).take j++[shr x (24-8*j) % 256]=(B x).take (j+1):=by
    match j,hj with
    | 0,_=>rfl
    | 1,_=>rfl
    | 2,_=>rfl
    | 3,_=>show _=B x;simp [B,shr]
   rw [aA P,e]
  ·dsimp only
   rw [geI (by omega),cF]
   rfl
  ·rw [wk ((k:Int)+1) (j:=((k+1:Nat):Int)) (by omega) (by omega) (by omega),List.take_add_one,gE (show k<h.length by omega),Option.toList_some,List.flatMap_append,hp]
   have:h[k]'(by omega)=x:=by rw [← hx,List.getD_eq_getElem?_getD,gE (by omega)];rfl
   rw [this,show 32-4*k-4=32-4*(k+1) by omega]
   simp only [List.flatMap_cons,List.flatMap_nil,List.append_nil]
 ·dsimp only
  rw [geI (by omega),cF,tkL (by omega)]
  simp
 ·have e:partV (iL (h.flatMap B)) (nat_lit 0) (nat_lit 32)=iL (h.flatMap B):=by
   show ((iL (h.flatMap B)).drop 0).take 32=_
   rw [List.drop_zero,tkL (by rw [iL_len,hB];omega)]
  rw [e]
  unfold strB wBytes iL
  rw [List.map_map]
  congr 1
  rw [List.map_flatMap]
  congr 1
  funext x
  simp [B,ofNat_mod]
theorem blks_succ:∀ (k:Nat) (h b:List Nat),blks (k+1) h b=blk (blks k h b) ((b.drop (64*k)).take 64)
 | 0,h,b=>by simp [blks]
 | k+1,h,b=>by
  rw [blks,blks_succ k,← blks,List.drop_drop]
  congr 3
  omega
theorem nZ_lt {L k:Nat} (h:k<nZ L):(L+1+k) % 64≠56:=by unfold nZ at h;omega
theorem nZ_eq (L:Nat):(L+1+nZ L) % 64=56:=by unfold nZ;omega
theorem nZ_le (L:Nat):nZ L≤63:=by unfold nZ;omega
theorem pad_len (b:List Nat):(pad b).length=b.length+1+nZ b.length+8:=by unfold pad;simp;omega
theorem bytes_of (s:Bs):(s.map fun b=>(b.toNat:Int))=iL (s.map UInt8.toNat):=by rw [iL,List.map_map];rfl
theorem app_iL {l:List Nat} {c:Nat} {y:Nat} {d:Int} (e:d=y) (hc:c≤8) (h:l.length≤1000000):appM c (iL l) [d]=some (iL (l++[y])):=by
 subst e
 rw [appM_of]
 ·simp [iL]
 ·rw [iL_len]
  have:(l.length+[(y:Int)].length)*c≤(l.length+[(y:Int)].length)*8:=Nat.mul_le_mul_left _ hc
  simp only [List.length_singleton] at *
  omega
theorem w4_ok {b:List Nat} (hb:b.length=64) {k:Nat} (hk:k<16) {β:Type} {f:Int→Option β} {r:β} (h:f ((w4 b k:Nat):Int)=some r) :
  ((idxM (iL b) (IntKind.wrap .i64 (4*(k:Int)))).bind fun r_4=>(shlM .u32 (IntKind.wrap .u32 r_4) 24).bind fun r_5=>(idxM (iL b) (IntKind.wrap .i64 (IntKind.wrap .i64 (4*(k:Int))+1))).bind fun r_6=>(shlM .u32 (IntKind.wrap .u32 r_6) 16).bind fun r_7=>(idxM (iL b) (IntKind.wrap .i64 (IntKind.wrap .i64 (4*(k:Int))+2))).bind fun r_8=>(shlM .u32 (IntKind.wrap .u32 r_8) 8).bind fun r_9=>(idxM (iL b) (IntKind.wrap .i64 (IntKind.wrap .i64 (4*(k:Int))+3))).bind fun r_10=>f (bitM BinOp.or .u32 (bitM BinOp.or .u32 (bitM BinOp.or .u32 r_5 r_7) r_9) (IntKind.wrap .u32 r_10)))=some r:=by
 rw [wk (4*(k:Int)) (j:=((4*k:Nat):Int)) (by omega) (by omega) (by omega),iL_idx (by omega),oB,wrapI,shlI (n:=24) _ 24 rfl (by omega),oB,
  wk (((4*k:Nat):Int)+1) (j:=((4*k+1:Nat):Int)) (by omega) (by omega) (by omega),iL_idx (by omega),oB,wrapI,shlI (n:=16) _ 16 rfl (by omega),oB,
  wk (((4*k:Nat):Int)+2) (j:=((4*k+2:Nat):Int)) (by omega) (by omega) (by omega),iL_idx (by omega),oB,wrapI,shlI (n:=8) _ 8 rfl (by omega),oB,
  wk (((4*k:Nat):Int)+3) (j:=((4*k+3:Nat):Int)) (by omega) (by omega) (by omega),iL_idx (by omega),oB,wrapI,orI,orI,orI]
 exact h
theorem wSum_ok {s:Bs} (hs:s.length≤900000):m112 s=some (sha s):=by
 unfold m112
 generalize hb0:s.map UInt8.toNat=b0
 have hL:b0.length=s.length:=by rw [← hb0];simp
 refine bind_of (x:=iL b0) (by unfold bytesM;rw [Nat.ble_eq_true_of_le (by omega),bytes_of,hb0]) ?_
 refine bind_of (x:=iL (b0++[128])) (app_iL rfl (by decide) (by omega)) ?_
 refine bind_of (x:=iL (b0++[128]++List.replicate (nZ b0.length) 0)) (loopM_at (fun k=>iL (b0++[128]++List.replicate k 0)) (nZ b0.length) (by simp) (fun k hk=>?_) ?_) ?_
 ·have hz:=nZ_le b0.length
  have hl:lenM (iL (b0++[128]++List.replicate k 0))=((b0.length+1+k:Nat):Int):=by rw [lenI];simp;omega
  have:=nZ_lt hk
  dsimp only
  rw [hl,show (64:Int)=((64:Nat):Int) from rfl,remM_nat' _ _ (by decide),oB,neI (by omega),notF,cT,app_iL (d:=0) (c:=nat_lit 1) (y:=0) rfl (by decide) (by simp;omega),oB,aA _ _ [0],List.replicate_succ']
 ·have hl:lenM (iL (b0++[128]++List.replicate (nZ b0.length) 0))=((b0.length+1+nZ b0.length:Nat):Int):=by rw [lenI];simp;omega
  have:=nZ_eq b0.length
  dsimp only
  rw [hl,show (64:Int)=((64:Nat):Int) from rfl,remM_nat' _ _ (by decide),oB,eqI (by omega),notT,cF]
 generalize hP:b0++[128]++List.replicate (nZ b0.length) 0=P
 have hPl:P.length=b0.length+1+nZ b0.length:=by rw [← hP];simp;omega
 have hz:=nZ_le b0.length
 refine bind_of (x:=iL (P++(List.range 8).map fun i=>shr (8*b0.length) (8*(7-i)) % 256)) (loopM_at (fun k=>((7:Int)-(k:Int),iL (P++(List.range k).map fun i=>shr (8*b0.length) (8*(7-i)) % 256))) 8 (by simp) (fun k hk=>?_) ?_) ?_
 ·dsimp only
  rw [leI (by omega),cT,lenI,← hL,wrap_in (n:=8*(b0.length:Int)) (by omega) (by omega),show 8*(b0.length:Int)=((8*b0.length:Nat):Int) by omega,wk (8*(7-(k:Int))) (j:=((8*(7-k):Nat):Int)) (by omega) (by omega) (by omega),shrI _ (8*(7-k)) rfl (by show _≤64;omega),oB,app_iL (y:=shr (8*b0.length) (8*(7-k)) % 256) (by rw [wu8];rfl) (by decide) (by simp;omega),oB,wrap_in (by omega) (by omega),List.range_succ,List.map_append,aA]
  rw [show (7:Int)-(k:Int)-1=7-((k+1:Nat):Int) by omega];rfl
 ·dsimp only
  rw [gtI (by omega),cF]
 have hQ:P++(List.range 8).map (fun i=>shr (8*b0.length) (8*(7-i)) % 256)=pad b0:=by rw [← hP];unfold pad;simp
 rw [hQ]
 have hQl:=pad_len b0
 obtain ⟨n,hn⟩:∃ n,(pad b0).length=64*n:=⟨(pad b0).length / 64,by have:=nZ_eq b0.length;omega⟩
 refine bind_of (x:=(iL (blks n hSha (pad b0)),iL (pad b0))) (loopM_at (fun k=>(((64*k:Nat):Int),iL (blks k hSha (pad b0)),iL (pad b0))) n rfl (fun k hk=>?_) ?_) ?_
 ·dsimp only
  have hkl:64*k+64≤(pad b0).length:=by omega
  have hb2:(pad b0).length≤1000000:=by omega
  have hdl:(iL ((pad b0).drop (64*k))).length=(pad b0).length-64*k:=by simp
  generalize hB:((pad b0).drop (64*k)).take 64=B
  have hBl:B.length=64:=by rw [← hB,lT,List.length_drop];omega
  have hvl:(blks k hSha (pad b0)).length=8:=blks_len k rfl
  rw [blks_succ,hB,lenI,iL_len,ltI (by omega),cT]
  generalize blks k hSha (pad b0)=h at hvl
  refine bind_of (iL_slice (64*k) (pad b0).length rfl rfl (by omega) (nR _)) ?_
  rw [tkL (by simp)]
  refine bind_of (x:=iL B) ?_ ?_
  ·have e:IntKind.wrap .i64 (((64*k:Nat):Int)+min 64 (lenM (iL ((pad b0).drop (64*k)))))=((64*k+64:Nat):Int):=by
    rw [lenI,hdl,show min (64:Int) (((pad b0).length-64*k:Nat):Int)=64 by omega,wrap_in (by omega) (by omega)];rfl
   rw [e,sameM_self,oB,iL_slice (64*k) (64*k+64) rfl rfl (by omega) hkl,show 64*k+64-64*k=64 by omega,hB]
  refine bind_of (x:=iL ((List.range 16).map (w4 B)++List.replicate 48 0)) (loopM_at (fun j=>((j:Int),iL ((List.range j).map (w4 B)++List.replicate (64-j) 0))) 16 rfl (fun j hj=>?_) ?_) ?_
  ·dsimp only
   rw [ltI (by omega),cT]
   refine w4_ok hBl hj (f:=fun w=>(chkM (j:Int) ((nat_lit 64:Nat):Int)).bind fun _=>(setM (iL ((List.range j).map (w4 B)++List.replicate (64-j) 0)) (((nat_lit 0:Nat):Int)+(j:Int)*((nat_lit 1:Nat):Int)) fun _=>some w).bind fun r=>some (Sum.inl (IntKind.wrap .i64 ((j:Int)+1),r))) ?_
   dsimp only
   obtain ⟨m,hm⟩:∃ m,64-j=m+1:=⟨63-j,by omega⟩
   rw [chkM_of (by omega) (by show (j:Int)<64;omega),oB,z01,hm,iL_set j rfl (by simp) (y:=w4 B j) (fun _=>rfl),oB,set_next (by simp),wk ((j:Int)+1) (j:=((j+1:Nat):Int)) (by omega) (by omega) (by omega),w16_succ,show 64-(j+1)=m by omega]
  ·dsimp only
   rw [geI (by omega),cF]
  generalize hW:(List.range 16).map (w4 B)=W
  have hWl:W.length=16:=by rw [← hW];simp
  refine bind_of (x:=iL (wAll B)) (loopM_at (fun j=>(((16+j:Nat):Int),iL (wMore j W++List.replicate (48-j) 0))) 48 rfl (fun j hj=>?_) ?_) ?_
  ·have hl:(wMore j W).length=16+j:=by rw [wMore_len,hWl]
   obtain ⟨m,hm⟩:∃ m,48-j=m+1:=⟨47-j,by omega⟩
   have hwn:wNext (wMore j W)=nextW ((wMore j W).getD j 0) ((wMore j W).getD (j+1) 0) ((wMore j W).getD (j+9) 0) ((wMore j W).getD (j+14) 0):=by
    unfold wNext
    rw [hl,show 16+j-16=j by omega,show 16+j-15=j+1 by omega,show 16+j-7=j+9 by omega,show 16+j-2=j+14 by omega]
   dsimp only
   rw [wMore_succ,hwn]
   generalize wMore j W=l at hl
   have A:∀ n:Nat,n<16+j→idxM (iL (l++List.replicate (48-j) 0)) (n:Int)=some ((l.getD n 0:Nat):Int):=fun n hn=>by
    rw [iL_idx (by rw [lA];omega),getD_app (by omega)]
   have C:∀ n:Nat,n<64→chkM (n:Int) ((nat_lit 64:Nat):Int)=some ():=fun n hn=>chkM_of (by omega) (by show (n:Int)<64;omega)
   rw [ltI (by omega),cT,wk (((16+j:Nat):Int)-15) (j:=((j+1:Nat):Int)) (by omega) (by omega) (by omega),C _ (by omega),oB,z01,A _ (by omega),oB,
    wk (((16+j:Nat):Int)-2) (j:=((j+14:Nat):Int)) (by omega) (by omega) (by omega),C _ (by omega),oB,z01,A _ (by omega),oB,
    wk (((16+j:Nat):Int)-16) (j:=((j:Nat):Int)) (by omega) (by omega) (by omega),C _ (by omega),oB,z01,A _ (by omega),oB]
   refine bind_of (mixed2 _ 7 18 (by omega) (by omega)) ?_
   refine bind_of (shrI _ 3 rfl (by decide)) ?_
   refine bind_of (x:=()) (by rw [wk (((16+j:Nat):Int)-7) (j:=((j+9:Nat):Int)) (by omega) (by omega) (by omega)];exact C _ (by omega)) ?_
   refine bind_of (x:=((l.getD (j+9) 0:Nat):Int)) (by rw [wk (((16+j:Nat):Int)-7) (j:=((j+9:Nat):Int)) (by omega) (by omega) (by omega),z01];exact A _ (by omega)) ?_
   refine bind_of (mixed2 _ 17 19 (by omega) (by omega)) ?_
   refine bind_of (shrI _ 10 rfl (by decide)) ?_
   refine bind_of (x:=()) (C _ (by omega)) ?_
   rw [xorI,addI,addI,xorI,addI,z01]
   refine bind_of (iL_set (16+j) rfl (by rw [lA,List.length_replicate];omega) (y:=nextW (l.getD j 0) (l.getD (j+1) 0) (l.getD (j+9) 0) (l.getD (j+14) 0)) (fun _=>rfl)) ?_
   rw [hm,set_next hl,wk (((16+j:Nat):Int)+1) (j:=((16+(j+1):Nat):Int)) (by omega) (by omega) (by omega),show 48-(j+1)=m by omega]
  ·dsimp only
   rw [geI (by omega),cF]
   show some (Sum.inr (iL (wMore 48 W++[])))=_
   rw [List.append_nil,← hW];rfl
  refine bind_of (x:=iL (rndsN B h 64)) (loopM_at (fun j=>((j:Int),iL (rndsN B h j))) 64 (by rw [nth8 hvl];rfl) (fun j hj=>?_) ?_) ?_
  ·have hk1:idxM (iL kSha) (j:Int)=some ((kSha.getD j 0:Nat):Int):=iL_idx hj
   have hk2:idxM (iL (wAll B)) (((nat_lit 0:Nat):Int)+(j:Int)*((nat_lit 1:Nat):Int))=some (((wAll B).getD j 0:Nat):Int):=by rw [z01];exact iL_idx (by rw [wAll_len];exact hj)
   dsimp only
   rw [rndsN_succ B h hj]
   obtain ⟨a,b,c,d,e,f,g,i,hv⟩:=eight (rndsN_len B hvl j)
   rw [hv,ltI (by omega),cT]
   generalize kSha.getD j 0=kk at hk1
   generalize (wAll B).getD j 0=ww at hk2
   refine bind_of hk1 ?_
   refine bind_of (x:=(a:Int)) rfl ?_
   refine bind_of (x:=(e:Int)) rfl ?_
   refine bind_of (x:=(i:Int)) rfl ?_
   refine bind_of (mixed3 e 6 11 25 (by omega) (by omega) (by omega)) ?_
   refine bind_of (x:=(f:Int)) rfl ?_
   refine bind_of (x:=(g:Int)) rfl ?_
   refine bind_of (x:=()) (chkM_of (by omega) (by show (j:Int)<64;omega)) ?_
   refine bind_of ((idx64 (by rw [iL_len,wAll_len])).trans hk2) ?_
   refine bind_of (mixed3 a 2 13 22 (by omega) (by omega) (by omega)) ?_
   refine bind_of (x:=(b:Int)) rfl ?_
   refine bind_of (x:=(c:Int)) rfl ?_
   refine bind_of (x:=(b:Int)) rfl ?_
   refine bind_of (x:=(c:Int)) rfl ?_
   refine bind_of (x:=(d:Int)) rfl ?_
   refine bind_of (x:=[((mW (tW e f g i kk ww+uW a b c):Nat):Int),(a:Int),b,c,d,e,f,g]) ?_ ?_
   ·rw [addI,andI,cplI,andI,xorI,addI,addI,addI,andI,andI,andI,xorI,xorI,addI,addI];rfl
   refine bind_of (x:=[((mW (tW e f g i kk ww+uW a b c):Nat):Int),(a:Int),b,c,((mW (d+tW e f g i kk ww):Nat):Int),e,f,g]) ?_ ?_
   ·rw [addI,andI,cplI,andI,xorI,addI,addI,addI,addI];rfl
   rw [wk ((j:Int)+1) (j:=((j+1:Nat):Int)) (by omega) (by omega) (by omega)]
   rfl
  ·dsimp only
   rw [geI (by omega),cF]
  refine bind_of (x:=iL (blk h B)) (loopM_at (fun j=>((j:Int),iL ((blk h B).take j++h.drop j))) 8 (by simp) (fun j hj=>?_) ?_) ?_
  ·have hr:=rndsN_len B hvl 64
   have e1:(blk h B).length=8:=blk_len hvl
   have e2:(blk h B)[j]'(by omega)=mW (h.getD j 0+(rndsN B h 64).getD j 0):=by
    simp only [blk_eq,List.getElem_zipWith]
    rw [List.getD_eq_getElem?_getD,List.getD_eq_getElem?_getD,gE (by omega),gE (by omega)];rfl
   have e3:h.drop j=h.getD j 0::h.drop (j+1):=by
    rw [List.drop_eq_getElem_cons (by omega),List.getD_eq_getElem?_getD,gE (by omega)];rfl
   have e4:((blk h B).take j).length=j:=by rw [lT];omega
   have C:chkM (j:Int) ((nat_lit 8:Nat):Int)=some ():=chkM_of (by omega) (by show (j:Int)<8;omega)
   dsimp only
   rw [ltI (by omega),cT]
   refine bind_of C ?_
   refine bind_of (x:=((h.getD j 0:Nat):Int)) (by
    rw [z01,iL_idx (by rw [lA,e4,e3];simp),List.getD_eq_getElem?_getD,xR (by omega),e4,Nat.sub_self,e3];rfl) ?_
   refine bind_of C ?_
   refine bind_of (x:=(((rndsN B h 64).getD j 0:Nat):Int)) (by rw [z01];exact iL_idx (by omega)) ?_
   refine bind_of C ?_
   refine bind_of (x:=iL (((blk h B).take j++h.drop j).set j (mW (h.getD j 0+(rndsN B h 64).getD j 0)))) (by
    rw [z01,addI];exact iL_set j rfl (by rw [lA,e4,e3];simp) (fun _=>rfl)) ?_
   rw [wk ((j:Int)+1) (j:=((j+1:Nat):Int)) (by omega) (by omega) (by omega),List.set_append_right _ _ (by omega),e4,Nat.sub_self,e3,List.set_cons_zero,List.take_add_one,gE (by omega),Option.toList_some,e2,aA]
   rfl
  ·dsimp only
   rw [geI (by omega),cF,tkL (by rw [blk_len hvl];omega),List.drop_of_length_le (by omega),List.append_nil]
  rw [wrap_in (by omega) (by omega),show ((64*k:Nat):Int)+64=((64*(k+1):Nat):Int) by omega]
 ·dsimp only
  rw [lenI,geI (by rw [iL_len];omega),cF]
 ·refine bind_of (digest_ok (blks_len n rfl)) ?_
  unfold sha
  rw [hb0,hn,show 64*n / 64=n by omega]
theorem ext_ok {s:Bs} (hs:s.length≤900000):m95 s=some (iL (pad (s.map UInt8.toNat))):=by
 unfold m95
 generalize hb0:s.map UInt8.toNat=b0
 have hL:b0.length=s.length:=by rw [← hb0];simp
 refine bind_of (x:=iL b0) (loopM_at (fun k=>((k:Int),iL (b0.take k))) s.length (by simp) (fun k hk=>?_) ?_) ?_
 ·dsimp only
  have hk2:b0[k]? = some s[k].toNat:=by rw [← hb0,List.getElem?_map,gE hk];rfl
  rw [lenI,ltI (by omega),cT,byteM_of (gE hk),oB,app_iL rfl (by decide) (by rw [lT];omega),oB,wrap_in (by omega) (by omega),List.take_add_one,hk2]
  rfl
 ·dsimp only
  rw [lenI,geI (by omega),cF,tkL (by omega)]
 refine bind_of (x:=iL (b0++[128])) (app_iL rfl (by decide) (by omega)) ?_
 refine bind_of (x:=iL (b0++[128]++List.replicate (nZ b0.length) 0)) (loopM_at (fun k=>iL (b0++[128]++List.replicate k 0)) (nZ b0.length) (by simp) (fun k hk=>?_) ?_) ?_
 ·have hz:=nZ_le b0.length
  have hl:lenM (iL (b0++[128]++List.replicate k 0))=((b0.length+1+k:Nat):Int):=by rw [lenI];simp;omega
  have:=nZ_lt hk
  dsimp only
  rw [hl,show (64:Int)=((64:Nat):Int) from rfl,remM_nat' _ _ (by decide),oB,neI (by omega),notF,cT,app_iL (d:=0) (c:=nat_lit 1) (y:=0) rfl (by decide) (by simp;omega),oB,aA _ _ [0],List.replicate_succ']
 ·have hl:lenM (iL (b0++[128]++List.replicate (nZ b0.length) 0))=((b0.length+1+nZ b0.length:Nat):Int):=by rw [lenI];simp;omega
  have:=nZ_eq b0.length
  dsimp only
  rw [hl,show (64:Int)=((64:Nat):Int) from rfl,remM_nat' _ _ (by decide),oB,eqI (by omega),notT,cF]
 generalize hP:b0++[128]++List.replicate (nZ b0.length) 0=P
 have hPl:P.length=b0.length+1+nZ b0.length:=by rw [← hP];simp;omega
 have hz:=nZ_le b0.length
 refine bind_of (x:=iL (P++(List.range 8).map fun i=>shr (8*b0.length) (8*(7-i)) % 256)) (loopM_at (fun k=>((7:Int)-(k:Int),iL (P++(List.range k).map fun i=>shr (8*b0.length) (8*(7-i)) % 256))) 8 (by simp) (fun k hk=>?_) ?_) ?_
 ·dsimp only
  rw [leI (by omega),cT,lenI,← hL,wrap_in (n:=8*(b0.length:Int)) (by omega) (by omega),show 8*(b0.length:Int)=((8*b0.length:Nat):Int) by omega,wk (8*(7-(k:Int))) (j:=((8*(7-k):Nat):Int)) (by omega) (by omega) (by omega),shrI _ (8*(7-k)) rfl (by show _≤64;omega),oB,app_iL (y:=shr (8*b0.length) (8*(7-k)) % 256) (by rw [wu8];rfl) (by decide) (by simp;omega),oB,wrap_in (by omega) (by omega),List.range_succ,List.map_append,aA]
  rw [show (7:Int)-(k:Int)-1=7-((k+1:Nat):Int) by omega];rfl
 ·dsimp only
  rw [gtI (by omega),cF]
 have hQ:P++(List.range 8).map (fun i=>shr (8*b0.length) (8*(7-i)) % 256)=pad b0:=by rw [← hP];unfold pad;simp
 rw [hQ]
theorem iL_chk {l:List Nat} {j:Nat} (h:j<l.length):chkM (j:Int) (lenM (iL l))=some ():=chkM_of (by omega) (by rw [lenI,iL_len];omega)
theorem rblock_ok {h B:List Nat} (hvl:h.length=8) (hBl:B.length=64):m96 (iL h,iL B)=some (iL (blk h B)):=by
 unfold m96
 dsimp only
 refine bind_of (x:=iL ((List.range 16).map (w4 B))) (loopM_at (fun j=>((j:Int),iL ((List.range j).map (w4 B)))) 16 rfl (fun j hj=>?_) ?_) ?_
 ·dsimp only
  rw [ltI (by omega),cT]
  refine w4_ok hBl hj (f:=fun w=>(appM (nat_lit 4) (iL ((List.range j).map (w4 B))) [w]).bind fun r=>some (Sum.inl (IntKind.wrap .i64 ((j:Int)+1),r))) ?_
  dsimp only
  rw [app_iL rfl (by decide) (by simp;omega),oB,wk ((j:Int)+1) (j:=((j+1:Nat):Int)) (by omega) (by omega) (by omega),w16_succ]
 ·dsimp only
  rw [geI (by omega),cF]
 generalize hW:(List.range 16).map (w4 B)=W
 have hWl:W.length=16:=by rw [← hW];simp
 refine bind_of (x:=iL (wAll B)) (loopM_at (fun j=>(((16+j:Nat):Int),iL (wMore j W))) 48 rfl (fun j hj=>?_) ?_) ?_
 ·have hl:(wMore j W).length=16+j:=by rw [wMore_len,hWl]
  have hwn:wNext (wMore j W)=nextW ((wMore j W).getD j 0) ((wMore j W).getD (j+1) 0) ((wMore j W).getD (j+9) 0) ((wMore j W).getD (j+14) 0):=by
   unfold wNext
   rw [hl,show 16+j-16=j by omega,show 16+j-15=j+1 by omega,show 16+j-7=j+9 by omega,show 16+j-2=j+14 by omega]
  dsimp only
  rw [wMore_succ,hwn]
  generalize wMore j W=l at hl
  have A:∀ n:Nat,n<16+j→idxM (iL l) (n:Int)=some ((l.getD n 0:Nat):Int):=fun n hn=>iL_idx (by omega)
  have C:∀ n:Nat,n<16+j→chkM (n:Int) (lenM (iL l))=some ():=fun n hn=>iL_chk (by omega)
  have R:∀ x n:Nat,n<32→m124 ((x:Int),(n:Int))=some ((rot x n:Nat):Int):=rot_ok
  rw [ltI (by omega),cT,wk (((16+j:Nat):Int)-15) (j:=((j+1:Nat):Int)) (by omega) (by omega) (by omega),wk (((16+j:Nat):Int)-2) (j:=((j+14:Nat):Int)) (by omega) (by omega) (by omega),wk (((16+j:Nat):Int)-16) (j:=((j:Nat):Int)) (by omega) (by omega) (by omega),wk (((16+j:Nat):Int)-7) (j:=((j+9:Nat):Int)) (by omega) (by omega) (by omega)]
  refine bind_of (C _ (by omega)) ?_
  refine bind_of (A _ (by omega)) ?_
  refine bind_of (R _ 7 (by omega)) ?_
  refine bind_of (C _ (by omega)) ?_
  refine bind_of (A _ (by omega)) ?_
  refine bind_of (R _ 18 (by omega)) ?_
  refine bind_of (C _ (by omega)) ?_
  refine bind_of (A _ (by omega)) ?_
  refine bind_of (shrI _ 3 rfl (by decide)) ?_
  refine bind_of (C _ (by omega)) ?_
  refine bind_of (A _ (by omega)) ?_
  refine bind_of (R _ 17 (by omega)) ?_
  refine bind_of (C _ (by omega)) ?_
  refine bind_of (A _ (by omega)) ?_
  refine bind_of (R _ 19 (by omega)) ?_
  refine bind_of (C _ (by omega)) ?_
  refine bind_of (A _ (by omega)) ?_
  refine bind_of (shrI _ 10 rfl (by decide)) ?_
  refine bind_of (C _ (by omega)) ?_
  refine bind_of (A _ (by omega)) ?_
  refine bind_of (C _ (by omega)) ?_
  refine bind_of (A _ (by omega)) ?_
  rw [xorI,xorI,addI,addI,xorI,xorI,addI]
  refine bind_of (app_iL (y:=nextW (l.getD j 0) (l.getD (j+1) 0) (l.getD (j+9) 0) (l.getD (j+14) 0)) rfl (by decide) (by omega)) ?_
  rw [wk (((16+j:Nat):Int)+1) (j:=((16+(j+1):Nat):Int)) (by omega) (by omega) (by omega)]
 ·dsimp only
  rw [geI (by omega),cF,← hW];rfl
 refine bind_of (x:=iL kSha) rfl ?_
 refine bind_of (x:=iL h) (by rw [appM_of (by rw [iL_len];simp;omega)];rfl) ?_
 refine bind_of (x:=iL (rndsN B h 64)) (loopM_at (fun j=>(iL (rndsN B h j),(j:Int))) 64 rfl (fun j hj=>?_) ?_) ?_
 ·have hk1:idxM (iL kSha) (j:Int)=some ((kSha.getD j 0:Nat):Int):=iL_idx hj
  have hk2:idxM (iL (wAll B)) (j:Int)=some (((wAll B).getD j 0:Nat):Int):=iL_idx (by rw [wAll_len];exact hj)
  have hk3:chkM (j:Int) (lenM (iL (wAll B)))=some ():=iL_chk (by rw [wAll_len];exact hj)
  dsimp only
  rw [rndsN_succ B h hj]
  obtain ⟨a,b,c,d,e,f,g,i,hv⟩:=eight (rndsN_len B hvl j)
  rw [hv,ltI (by omega),cT]
  generalize kSha.getD j 0=kk at hk1
  generalize (wAll B).getD j 0=ww at hk2
  refine bind_of (x:=(a:Int)) rfl ?_
  refine bind_of (x:=(e:Int)) rfl ?_
  refine bind_of (x:=(i:Int)) rfl ?_
  refine bind_of (rot_ok e 6 (by omega)) ?_
  refine bind_of (rot_ok e 11 (by omega)) ?_
  refine bind_of (rot_ok e 25 (by omega)) ?_
  refine bind_of (x:=(f:Int)) rfl ?_
  refine bind_of (x:=(g:Int)) rfl ?_
  refine bind_of hk1 ?_
  refine bind_of hk3 ?_
  refine bind_of hk2 ?_
  refine bind_of (rot_ok a 2 (by omega)) ?_
  refine bind_of (rot_ok a 13 (by omega)) ?_
  refine bind_of (rot_ok a 22 (by omega)) ?_
  refine bind_of (x:=(b:Int)) rfl ?_
  refine bind_of (x:=(c:Int)) rfl ?_
  refine bind_of (x:=(b:Int)) rfl ?_
  refine bind_of (x:=(c:Int)) rfl ?_
  refine bind_of (x:=(b:Int)) rfl ?_
  refine bind_of (x:=(c:Int)) rfl ?_
  refine bind_of (x:=(d:Int)) rfl ?_
  refine bind_of (x:=(f:Int)) rfl ?_
  refine bind_of (x:=(g:Int)) rfl ?_
  rw [xorI,xorI,addI,andI,cplI,andI,xorI,addI,addI,addI,xorI,xorI,andI,andI,andI,xorI,xorI,addI,addI,addI,wk ((j:Int)+1) (j:=((j+1:Nat):Int)) (by omega) (by omega) (by omega)]
  rfl
 ·dsimp only
  rw [geI (by omega),cF]
 have hr:=rndsN_len B hvl 64
 have e1:(blk h B).length=8:=blk_len hvl
 refine bind_of (x:=iL (blk h B)) (loopM_at (fun j=>((j:Int),iL ((blk h B).take j))) 8 (by simp) (fun j hj=>?_) ?_) rfl
 ·have e2:(blk h B)[j]'(by omega)=mW (h.getD j 0+(rndsN B h 64).getD j 0):=by
   simp only [blk_eq,List.getElem_zipWith]
   rw [List.getD_eq_getElem?_getD,List.getD_eq_getElem?_getD,gE (by omega),gE (by omega)];rfl
  dsimp only
  rw [ltI (by omega),cT,iL_idx (by omega),oB,iL_idx (by omega),oB,addI,app_iL rfl (by decide) (by rw [lT];omega),oB,wk ((j:Int)+1) (j:=((j+1:Nat):Int)) (by omega) (by omega) (by omega),List.take_add_one,gE (by omega),Option.toList_some,e2]
 ·dsimp only
  rw [geI (by omega),cF,tkL (by omega)]
theorem rSum_ok {s:Bs} (hs:s.length≤900000):m52 s=some (sha s):=by
 unfold m52
 refine bind_of (ext_ok hs) ?_
 have hL:(s.map UInt8.toNat).length=s.length:=by simp
 unfold sha
 generalize s.map UInt8.toNat=b0 at hL
 have hz:=nZ_le b0.length
 have hQl:=pad_len b0
 obtain ⟨n,hn⟩:∃ n,(pad b0).length=64*n:=⟨(pad b0).length / 64,by have:=nZ_eq b0.length;omega⟩
 refine bind_of (x:=iL (blks n hSha (pad b0))) (loopM_at (fun k=>(iL (blks k hSha (pad b0)),((64*k:Nat):Int))) n rfl (fun k hk=>?_) ?_) ?_
 ·have hkl:64*k+64≤(pad b0).length:=by omega
  have hBl:(((pad b0).drop (64*k)).take 64).length=64:=by rw [lT,List.length_drop];omega
  dsimp only
  rw [lenI,iL_len,ltI (by omega),cT,blks_succ,wrap_in (n:=((64*k:Nat):Int)+64) (by omega) (by omega),iL_slice (64*k) (64*k+64) rfl (by omega) (by omega) hkl,oB,show 64*k+64-64*k=64 by omega,rblock_ok (blks_len k rfl) hBl,oB,show ((64*k:Nat):Int)+64=((64*(k+1):Nat):Int) by omega]
 ·dsimp only
  rw [lenI,iL_len,geI (by omega),cF]
 have h8:(blks n hSha (pad b0)).length=8:=blks_len n rfl
 rw [hn,show 64*n / 64=n by omega]
 generalize blks n hSha (pad b0)=h at h8
 let B:Nat→List Nat:=fun x=>[shr x 24 % 256,shr x 16 % 256,shr x 8 % 256,x % 256]
 have hB:∀ l:List Nat,(l.flatMap B).length=4*l.length:=fun l=>by
  induction l with
  | nil=>rfl
  | cons a l ih=>rw [List.flatMap_cons,lA,ih];simp [B];omega
 refine bind_of (x:=iL (h.flatMap B)) (loopM_at (fun j=>((j:Int),iL ((h.take j).flatMap B))) 8 (by simp) (fun j hj=>?_) ?_) ?_
 ·have hl:((h.take j).flatMap B).length=4*j:=by rw [hB,lT];omega
  have A:idxM (iL h) (j:Int)=some ((h.getD j 0:Nat):Int):=iL_idx (by omega)
  dsimp only
  rw [ltI (by omega),cT]
  refine bind_of A ?_
  refine bind_of (shrI _ 24 rfl (by decide)) ?_
  refine bind_of A ?_
  refine bind_of (shrI _ 16 rfl (by decide)) ?_
  refine bind_of A ?_
  refine bind_of (shrI _ 8 rfl (by decide)) ?_
  refine bind_of A ?_
  refine bind_of (x:=iL ((h.take (j+1)).flatMap B)) ?_ (by rw [wk ((j:Int)+1) (j:=((j+1:Nat):Int)) (by omega) (by omega) (by omega)])
  rw [appM_of (by rw [iL_len,hl];show (4*j+4)*1≤_;omega),List.take_add_one,gE (show j<h.length by omega),Option.toList_some,List.flatMap_append,wu8,wu8,wu8,wu8,show h[j]'(by omega)=h.getD j 0 by rw [List.getD_eq_getElem?_getD,gE (by omega)];rfl]
  unfold iL
  rw [List.map_append]
  rfl
 ·dsimp only
  rw [geI (by omega),cF,tkL (by omega)]
 ·show some (strB (iL (h.flatMap B)))=_
  unfold strB wBytes iL
  rw [List.map_map]
  congr 1
  rw [List.map_flatMap]
  congr 1
  funext x
  simp [B,ofNat_mod]
theorem remM_nat (a b:Nat) (hb:0<b):remM (a:Int) (b:Int)=some ((a % b:Nat):Int):=by rw [remM_of (by omega) (by omega)];rfl
theorem divM_nat {k:IntKind} (a b:Nat) (hb:0<b):divM k (a:Int) (b:Int)=some (k.wrap ((a / b:Nat):Int)):=by
 rw [divM_pos (by omega),Int.tdiv_eq_ediv_of_nonneg (by omega)];rfl
theorem zig_ok {n:Int} (h:inR n):m123 n=some (zz n:Int):=by
 have h':-4611686018427387903≤n∧n≤4611686018427387903:=h
 unfold m123 negM
 try dsimp only
 by_cases hn:n<0
 ·rw [ltI hn,cT,wrap_in (by omega) (by omega),wu64_in (n:=-n) (by omega) (by omega),wu64_in (n:=-n*2) (by omega) (by omega),wu64_in (by omega) (by omega)]
  unfold zz
  rw [if_pos hn];congr 1;omega
 ·rw [geI (by omega),cF,wu64_in (n:=n) (by omega) (by omega),wu64_in (by omega) (by omega)]
  unfold zz
  rw [if_neg hn];congr 1;omega
theorem rPut_ok {n:Int} (h:inR n):m87 n=some (pI n,0):=by
 have h':-4611686018427387903≤n∧n≤4611686018427387903:=h
 have hz:=zz_lt h
 unfold m87
 try dsimp only
 rw [geI h'.1,geI h'.2,orF,cF,zig_ok h,oB]
 have key:Ans (loopM (fun (s:Int×List Int)=>bif leM 128 s.1 then (remM s.1 128).bind fun r_1=>(appM (nat_lit 1) s.2 [IntKind.wrap .u8 (IntKind.wrap .u64 (r_1+128))]).bind fun r_2=>(divM .u64 s.1 128).bind fun r=>some (Sum.inl (r,r_2)) else some (Sum.inr (s.1,s.2))) ((zz n:Int),([]:List Int))) (fun r=>r.2.length≤10∧∃ z:Nat,r.1=z∧z<128∧r.2++[(z:Int)]=nB (pI n)):=by
  refine Ans.loop (fun k s=>∃ z:Nat,s.1=z∧s.2.length=k∧z<128 ^ (10-k)∧z<9223372036854775807∧s.2++nB (grp z)=nB (pI n)) 10 ⟨zz n,rfl,rfl,Nat.lt_trans hz (by decide),hz,rfl⟩ ?_
  rintro k ⟨s1,s2⟩ hk ⟨z,h1,h2,h3,hz64,h4⟩
  dsimp only at h1 h2 h4 ⊢
  subst h1
  by_cases hs:z<128
  ·rw [gtI (by omega),cF]
   exact Ans.some ⟨by rw [h2];exact hk,z,rfl,hs,by rw [← h4,nB_grp_lt hs]⟩
  ·obtain ⟨j,hj⟩:∃ j,10-k=j+1:=⟨10-k-1,by
    have:k≠10:=fun e=>by subst e;simp at h3;omega
    omega⟩
   rw [leI (by omega),cT,show (128:Int)=((128:Nat):Int) from rfl,remM_nat _ _ (by decide),oB,wu64_in (by omega) (by omega),wu8_in (by omega) (by omega),app1 (by decide) (by omega),oB,divM_nat _ _ (by decide),oB,wu64_in (by omega) (by omega)]
   refine Ans.some ⟨by omega,z / 128,rfl,by simp [h2],?_,by omega,?_⟩
   ·rw [hj,Nat.pow_succ] at h3
    rw [show 10-(k+1)=j by omega];omega
   ·show (s2++[((z % 128:Nat):Int)+((128:Nat):Int)])++nB (grp (z / 128))=_
    rw [← h4,nB_grp_ge (z:=z) (by omega),aA];rfl
 obtain ⟨r,h1,hl,z,h2,h3,h4⟩:=key
 refine bind_of h1 ?_
 rw [h2,wu8_in (by omega) (by omega),app1 (by decide) (by omega),oB,h4,strB_nB]
theorem rPut_all (n:Int):∃ e,m87 n=some (pI2 n,e):=by
 by_cases h:inR n
 ·exact ⟨0,by rw [rPut_ok h,pI2_in h]⟩
 ·refine ⟨10,?_⟩
  unfold m87 pI2
  try dsimp only
  rw [not_inR h,cT,if_neg h]
theorem rPutS_ok {s:Bs} (h:s.length≤65536):m88 s=some (pS s,0):=by
 unfold m88
 try dsimp only
 rw [lenI,geI (by omega),cF,rPut_ok (inR_len h),oB,catM_of (by have:=pI_len (inR_len h);dsimp only;omega),oB]
 rfl
theorem rPutS_all (s:Bs):∃ e,m88 s=some (pS2 s,e):=by
 by_cases h:s.length≤65536
 ·exact ⟨0,by rw [rPutS_ok h,pS2_in h]⟩
 ·refine ⟨10,?_⟩
  unfold m88 pS2
  try dsimp only
  rw [lenI,ltI (by omega),cT,if_neg h]
theorem rSg_all (r:Rp):m43 r=some (sg2 r):=by
 unfold m43
 try dsimp only
 rw [seven' pI2_len rPut_all (fun x y h=>catM_of (by omega)) (by simp),oB]
 obtain ⟨e,he⟩:=rPutS_all r.pv
 rw [he,oB,catM_of (by have:=pS2_len r.pv;have:=pI2_len r.1;have:=pI2_len r.2.1;have:=pI2_len r.2.2.1;have:=pI2_len r.2.2.2.1;have:=pI2_len r.2.2.2.2.1;have:=pI2_len r.2.2.2.2.2.1;have:=pI2_len r.2.2.2.2.2.2.1;simp only [List.flatMap_cons,List.flatMap_nil,lA,List.length_nil];omega),oB]
 unfold sg2
 simp only [List.flatMap_cons,List.flatMap_nil,aA,List.nil_append]
theorem rEn_all (r:Rp):m64 r=some (en2 r):=by
 unfold m64
 try dsimp only
 obtain ⟨e,he⟩:=rPutS_all r.tg
 have:=sg2_len r
 have:=pS2_len r.tg
 rw [show (r.1,r.2.1,r.2.2.1,r.2.2.2.1,r.2.2.2.2.1,r.2.2.2.2.2.1,r.2.2.2.2.2.2.1,r.2.2.2.2.2.2.2.1,r.2.2.2.2.2.2.2.2)=r from rfl,he,oB,rSg_all,oB,catM_of (by dsimp only;omega),oB]
 rfl
theorem eR (r:Rp):(r.1,r.2.1,r.2.2.1,r.2.2.2.1,r.2.2.2.2.1,r.2.2.2.2.2.1,r.2.2.2.2.2.2.1,r.2.2.2.2.2.2.2.1,r.2.2.2.2.2.2.2.2)=r:=rfl
theorem join_two (a b:Bs):Lib.join [a,b] []=a++b:=by rw [join_cons];simp [joinTail]
theorem wChain_ok {a b:Bs} (h:a.length+b.length≤800000):m116 (a,b)=some (chain a b):=by
 unfold m116 joinM
 dsimp only
 rw [join_two,dT (by rw [lA];omega),dT (by simp)]
 dsimp only
 rw [oB,catM_of (by simp;omega),oB,wSum_ok (by simp;omega)]
 rfl
theorem wNode_ok {a b:Bs} (h:a.length+b.length≤800000):m111 (a,b)=some (node a b):=by
 unfold m111 joinM
 dsimp only
 rw [join_two,dT (by rw [lA];omega),dT (by simp)]
 dsimp only
 rw [oB,catM_of (by simp;omega),oB,wSum_ok (by simp;omega)]
 rfl
theorem wLeaf_ok {a:Bs} (h:a.length≤800000):m42 a=some (leaf a):=by
 unfold m42 joinM
 rw [join_one,dT (by omega),dT (by simp)]
 dsimp only
 rw [oB,catM_of (by simp;omega),oB,wSum_ok (by simp;omega)]
 rfl
theorem rChain_ok {a b:Bs} (h:a.length+b.length≤800000):m92 (a,b)=some (chain a b):=by
 unfold m92
 dsimp only
 rw [catM_of (by simp;omega),oB,catM_of (by simp;omega),oB,rSum_ok (by simp;omega)]
 rfl
theorem rNode_ok {a b:Bs} (h:a.length+b.length≤800000):m93 (a,b)=some (node a b):=by
 unfold m93
 dsimp only
 rw [catM_of (by simp;omega),oB,catM_of (by simp;omega),oB,rSum_ok (by simp;omega)]
 rfl
theorem rLeaf_ok {a:Bs} (h:a.length≤800000):m94 a=some (leaf a):=by
 unfold m94
 rw [catM_of (by simp;omega),oB,rSum_ok (by simp;omega)]
 rfl
theorem strB_zero (n:Nat):strB (List.replicate n 0)=List.replicate n 0:=by unfold strB;rw [List.map_replicate];rfl
theorem rHead_nil:m91 []=some h0:=by
 unfold m91
 rw [mkM_of (by omega) (by omega) (by decide),oB,show (32:Int).toNat=32 from rfl,strB_zero]
 refine bind_of (x:=h0) ?_ rfl
 rw [loopM_eq];rfl
theorem within_eq (x lo hi:Int):m99 (x,lo,hi)=some (decide (lo≤x∧x≤hi)):=by
 unfold m99 PE.andM leM
 dsimp only
 rw [Bool.decide_and]
theorem in_eq (x lo hi:Int):m104 (x,lo,hi)=some (decide (lo≤x∧x≤hi)):=by
 unfold m104 PE.andM leM
 dsimp only
 rw [Bool.decide_and]
theorem wOk_eq (r:Rp):m61 r=some (decide (OkR r)):=by
 obtain ⟨a1,a2,a3,a4,a5,a6,a7,a8,a9⟩:=r
 unfold m61 OkR
 dsimp only [Rp.sv,Rp.nu,Rp.da,Rp.ki,Rp.su,Rp.va,Rp.rf,Rp.pv,Rp.tg]
 rw [within_eq,oB]
 by_cases h1:0≤a1∧a1≤7
 ·rw [dT h1,notT,notF,cT,within_eq,oB]
  by_cases h2:0≤a2∧a2≤39
  ·rw [dT h2,notT,orF,notF,cT,within_eq,oB,orF]
   have e:IntKind.wrap .i64 (a2-1)=a2-1:=wrap_in (by omega) (by omega)
   by_cases h3:0≤a3∧a3≤800000
   ·rw [dT h3,notT,orF,lenI,lenI]
    by_cases h4:a8.length=32
    ·rw [eqI (by omega),notT,orF]
     by_cases h5:a9.length=32
     ·rw [eqI (by omega),notT,cF]
      by_cases k1:a4=1
      ·rw [eqI k1,cT,within_eq,oB]
       by_cases s1:0≤a5∧a5≤99
       ·rw [dT s1,cT,within_eq,oB]
        congr 1
        unfold PE.andM eqM
        rw [Bool.true_and,← Bool.decide_and]
        congr 1
        refine propext ⟨fun h=>?_,fun h=>?_⟩<;>omega
       ·rw [dF s1,cF,oB]
        congr 1
        unfold PE.andM
        rw [Bool.false_and,Bool.false_and]
        exact (dF (by omega)).symm
      ·rw [neI k1,cF]
       by_cases k2:a4=2
       ·rw [eqI k2,cT]
        by_cases s1:a5=0∧a6=0
        ·rw [eqI s1.1,eqI s1.2,andT,cT,within_eq,oB,e,andT]
         congr 1
         congr 1
         refine propext ⟨fun h=>?_,fun h=>?_⟩<;>omega
        ·have:PE.andM (eqM a5 0) (eqM a6 0)=false:=by
          unfold PE.andM eqM;rw [← Bool.decide_and];exact dF s1
         rw [this,cF,oB,andF]
         congr 1
         exact (dF (by omega)).symm
       ·rw [neI k2,cF]
        congr 1
        exact (dF (by omega)).symm
     ·rw [neI (by omega),notF,cT]
      congr 1
      exact (dF (by omega)).symm
    ·rw [neI (by omega),notF,orT,cT]
     congr 1
     exact (dF (by omega)).symm
   ·rw [dF h3,notF,orT,orT,cT]
    congr 1
    exact (dF (by omega)).symm
  ·rw [dF h2,notF,orF,notT,cF,oB]
   unfold PE.orM
   simp only [Bool.true_or,Bool.false_or,Bool.or_true,cT]
   congr 1
   exact (dF (by omega)).symm
 ·rw [dF h1,notF,notT,cF,oB,orT,notT,cF,oB]
  simp only [orT,cT]
  congr 1
  exact (dF (by omega)).symm
theorem rOk_eq (r:Rp):m63 r=some (decide (OkR r)):=by
 obtain ⟨a1,a2,a3,a4,a5,a6,a7,a8,a9⟩:=r
 unfold m63 OkR
 dsimp only [Rp.sv,Rp.nu,Rp.da,Rp.ki,Rp.su,Rp.va,Rp.rf,Rp.pv,Rp.tg]
 rw [in_eq,oB]
 by_cases h1:0≤a1∧a1≤7
 ·rw [dT h1,notT,notF,cT,in_eq,oB]
  by_cases h2:0≤a2∧a2≤39
  ·rw [dT h2,notT,orF,notF,cT,in_eq,oB,orF]
   have e:IntKind.wrap .i64 (a2-1)=a2-1:=wrap_in (by omega) (by omega)
   by_cases h3:0≤a3∧a3≤800000
   ·rw [dT h3,notT,orF,lenI,lenI]
    by_cases h4:a8.length=32
    ·rw [eqI (by omega),notT,orF]
     by_cases h5:a9.length=32
     ·rw [eqI (by omega),notT,cF]
      by_cases k1:a4=1
      ·rw [eqI k1,cT,in_eq,oB]
       by_cases s1:0≤a5∧a5≤99
       ·rw [dT s1,cT,in_eq,oB]
        congr 1
        unfold PE.andM eqM
        rw [Bool.true_and,← Bool.decide_and]
        congr 1
        refine propext ⟨fun h=>?_,fun h=>?_⟩<;>omega
       ·rw [dF s1,cF,oB]
        congr 1
        unfold PE.andM
        rw [Bool.false_and,Bool.false_and]
        exact (dF (by omega)).symm
      ·rw [neI k1,cF]
       by_cases s1:(a4=2∧a5=0)∧a6=0
       ·rw [eqI s1.1.1,eqI s1.1.2,eqI s1.2,andT,andT,cT,in_eq,oB,e,andT]
        congr 1
        congr 1
        refine propext ⟨fun h=>?_,fun h=>?_⟩<;>omega
       ·have:PE.andM (PE.andM (eqM a4 2) (eqM a5 0)) (eqM a6 0)=false:=by
         unfold PE.andM eqM;rw [← Bool.decide_and,← Bool.decide_and];exact dF s1
        rw [this,cF,oB,andF]
        congr 1
        exact (dF (by omega)).symm
     ·rw [neI (by omega),notF,cT]
      congr 1
      exact (dF (by omega)).symm
    ·rw [neI (by omega),notF,orT,cT]
     congr 1
     exact (dF (by omega)).symm
   ·rw [dF h3,notF,orT,orT,cT]
    congr 1
    exact (dF (by omega)).symm
  ·rw [dF h2,notF,orF,notT,cF,oB]
   unfold PE.orM
   simp only [Bool.true_or,Bool.false_or,Bool.or_true,cT]
   congr 1
   exact (dF (by omega)).symm
 ·rw [dF h1,notF,notT,cF,oB,orT,notT,cF,oB]
  simp only [orT,cT]
  congr 1
  exact (dF (by omega)).symm
theorem okR_len {r:Rp} (h:OkR r):(sg r).length≤65608∧(en r).length≤131153:=by
 have h1:=sg2_len r
 have h2:=en2_len r
 rw [sg2_ok h] at h1
 rw [en2_ok h] at h2
 exact ⟨h1,h2⟩
theorem wTag_ok {key:Bs} {r:Rp} (hk:key.length≤1000) (h:OkR r):m85 (key,r)=some (tagR key r):=by
 unfold m85
 dsimp only
 have:=(okR_len h).1
 have h3:(leaf (sg r)).length=32:=sha_len _
 rw [eR,wSg_all,oB,sg2_ok h,wLeaf_ok (by omega),oB,wNode_ok (by omega),oB]
 rfl
theorem rTag_ok {key:Bs} {r:Rp} (hk:key.length≤1000) (h:OkR r):m51 (key,r)=some (tagR key r):=by
 unfold m51
 dsimp only
 have:=(okR_len h).1
 have h3:(leaf (sg r)).length=32:=sha_len _
 rw [eR,rSg_all,oB,sg2_ok h,rLeaf_ok (by omega),oB,rNode_ok (by omega),oB]
 rfl
theorem wGen_eq (key:Bs) (r:Rp):m38 (key,r)=some (decide (Gen key r)):=by
 unfold m38
 dsimp only
 rw [eR,lenI]
 by_cases hk:key.length=32
 ·rw [eqI (by omega),cT,wOk_eq,oB,andT]
  by_cases h:OkR r
  ·rw [dT h,cT,wTag_ok (by omega) h,oB,andT]
   congr 1
   unfold eqsM Gen
   congr 1
   exact propext ⟨fun e=>⟨hk,h,e⟩,fun e=>e.2.2⟩
  ·rw [dF h,cF,oB,andF]
   congr 1
   exact (dF fun e=>h e.2.1).symm
 ·rw [neI (by omega),cF,oB,andF,cF,oB,andF]
  congr 1
  exact (dF fun e=>hk e.1).symm
theorem rGen_eq (key:Bs) (r:Rp):m54 (key,r)=some (decide (Gen key r)):=by
 unfold m54
 dsimp only
 rw [eR,lenI]
 by_cases hk:key.length=32
 ·rw [eqI (by omega),cT,rOk_eq,oB,andT]
  by_cases h:OkR r
  ·rw [dT h,cT,rTag_ok (by omega) h,oB,andT]
   congr 1
   unfold eqsM Gen
   congr 1
   exact propext ⟨fun e=>⟨hk,h,e.symm⟩,fun e=>e.2.2.symm⟩
  ·rw [dF h,cF,oB,andF]
   congr 1
   exact (dF fun e=>h e.2.1).symm
 ·rw [neI (by omega),cF,oB,andF,cF,oB,andF]
  congr 1
  exact (dF fun e=>hk e.1).symm
theorem lt2_ok {a b:Rp} (ha:OkR a) (hb:OkR b):lt2 a b↔ltR a b=true:=by
 rw [ltR_iff,lt2,en2_ok ha,en2_ok hb]
theorem cf76_lt {a b:Rp} (ha:OkR a) (hb:OkR b):leM 0 (cf76 a b)=!(ltR a b):=by
 have h:=(cf76_neg (x:=a) (y:=b)).trans (lt2_ok ha hb)
 cases e:ltR a b
 ·rw [e] at h
  have:¬ cf76 a b<0:=fun q=>by simpa using h.1 q
  exact leI (by omega)
 ·exact gtI (h.2 e)
theorem rBef_eq (a b:Rp):m97 (a,b)=some (decide (lt2 a b)):=by
 obtain ⟨x1,x2,x3,x4,x5,x6,x7,x8,x9⟩:=a
 obtain ⟨y1,y2,y3,y4,y5,y6,y7,y8,y9⟩:=b
 unfold m97 lt2
 dsimp only [Rp.sv,Rp.nu]
 by_cases h1:x1=y1
 ·rw [eqI h1,notT,cF]
  by_cases h2:x2=y2
  ·rw [eqI h2,notT,cF,rEn_all,oB,rEn_all,oB,slt_eq]
   congr 1
   rw [Bool.eq_iff_iff,decide_eq_true_iff]
   constructor
   ·intro h;exact .inr ⟨h1,.inr ⟨h2,h⟩⟩
   ·rintro (h | ⟨_,h | ⟨_,h⟩⟩)
    ·omega
    ·omega
    ·exact h
  ·rw [neI h2,notF,cT]
   congr 1
   unfold ltM
   congr 1
   exact propext ⟨fun h=>.inr ⟨h1,.inl h⟩,fun h=>by
    rcases h with h | ⟨_,h | ⟨h,_⟩⟩
    ·omega
    ·exact h
    ·exact absurd h h2⟩
 ·rw [neI h1,notF,cT]
  congr 1
  unfold ltM
  congr 1
  exact propext ⟨fun h=>.inl h,fun h=>by
   rcases h with h | ⟨h,_⟩
   ·exact h
   ·exact absurd h h1⟩
theorem up_of_adj {l:List Rp} (h:∀ i x y,l[i]? = some x→l[i+1]? = some y→ltR x y=true):Up l:=by
 rw [Up,List.pairwise_iff_getElem]
 intro i j hi hj hij
 obtain ⟨d,rfl⟩:∃ d,j=i+1+d:=⟨j-i-1,by omega⟩
 induction d with
 | zero=>exact h i _ _ (gE hi) (gE hj)
 | succ d ih =>
  have:=ih (by omega) (by omega)
  exact ltR_trans this (h (i+1+d) _ _ (gE (by omega)) (gE hj))
theorem adj_of_up {l:List Rp} (h:Up l) {i:Nat} {x y:Rp} (hx:l[i]? = some x) (hy:l[i+1]? = some y):ltR x y=true:=by
 rw [Up,List.pairwise_iff_getElem] at h
 have h1:=lt_of_get hx
 have h2:=lt_of_get hy
 have:=h i (i+1) h1 h2 (by omega)
 rw [gE h1] at hx
 rw [gE h2] at hy
 cases hx;cases hy;exact this
theorem wValid_eq {l:List Rp} (hl:l.length≤1000000):m29 l=some (decide (OkA l)):=by
 unfold m29
 have key:Ans (loopM (fun (s:Int)=>bif ltM s (lenM l) then (idxM l s).bind fun r=>(m61 (r.1,r.2.1,r.2.2.1,r.2.2.2.1,r.2.2.2.2.1,r.2.2.2.2.2.1,r.2.2.2.2.2.2.1,r.2.2.2.2.2.2.2.1,r.2.2.2.2.2.2.2.2)).bind fun r_1=>(bif PE.andM (PE.notM (PE.notM r_1)) (ltM 0 s) then idxM l (IntKind.wrap .i64 (s-1)) else some (0,0,0,0,0,0,0,[],[])).bind fun r_2=>(bif PE.andM (PE.notM (PE.notM r_1)) (ltM 0 s) then m76 ((r_2.1,r_2.2.1,r_2.2.2.1,r_2.2.2.2.1,r_2.2.2.2.2.1,r_2.2.2.2.2.2.1,r_2.2.2.2.2.2.2.1,r_2.2.2.2.2.2.2.2.1,r_2.2.2.2.2.2.2.2.2),r.1,r.2.1,r.2.2.1,r.2.2.2.1,r.2.2.2.2.1,r.2.2.2.2.2.1,r.2.2.2.2.2.2.1,r.2.2.2.2.2.2.2.1,r.2.2.2.2.2.2.2.2) else some 0).bind fun r=>bif PE.orM (PE.notM r_1) (PE.andM (ltM 0 s) (leM 0 r)) then some (Sum.inr (Sum.inr false)) else some (Sum.inl (IntKind.wrap .i64 (s+1))) else some (Sum.inr (Sum.inl ()))) 0)
   (fun (o:Unit⊕Bool)=>(o=.inl ()∧(∀ r∈l,OkR r)∧Up l)∨(o=.inr false∧¬ ((∀ r∈l,OkR r)∧Up l))):=by
  refine Ans.loop (fun k s=>s=k∧k≤l.length∧(∀ i r,i<k→l[i]? = some r→OkR r)∧∀ i x y,i+1<k→l[i]? = some x→l[i+1]? = some y→ltR x y=true) l.length ⟨rfl,by omega,fun i r h=>by omega,fun i x y h=>by omega⟩ ?_
  rintro k s hk ⟨rfl,h2,h3,h4⟩
  rw [lenI]
  by_cases hkl:k<l.length
  ·rw [ltI (by omega),cT,idxM_lt hkl,oB,eR,wOk_eq,oB]
   by_cases ho:OkR l[k]
   ·rw [dT ho,notT,notF,andT]
    by_cases h0:k=0
    ·subst h0
     rw [geI (by omega),cF,oB,cF,oB,andF,orF,cF,wrap_in (by omega) (by omega)]
     refine Ans.some ⟨by omega,rfl,by omega,fun i r hi hr=>?_,fun i x y hi=>by omega⟩
     have:i=0:=by omega
     subst this
     rw [gE hkl] at hr
     cases hr;exact ho
    ·obtain ⟨j,rfl⟩:∃ j,k=j+1:=⟨k-1,by omega⟩
     have hj:l[j]? = some (l[j]'(by omega)):=gE (by omega)
     have hoj:OkR (l[j]'(by omega)):=h3 j _ (by omega) hj
     rw [ltI (a:=0) (by omega),cT,wrap_in (n:=((j+1:Nat):Int)-1) (by omega) (by omega),show ((j+1:Nat):Int)-1=(j:Int) by omega,idxM_lt (by omega),oB,cT,eR,hm76,oB,andT,orF,cf76_lt hoj ho]
     cases e:ltR (l[j]'(by omega)) l[j+1]
     ·refine Ans.some (.inr ⟨rfl,fun h=>?_⟩)
      rw [adj_of_up h.2 hj (gE hkl)] at e
      cases e
     ·rw [show (!true)=false from rfl,cF,wrap_in (by omega) (by omega)]
      refine Ans.some ⟨by omega,rfl,by omega,fun i r hi hr=>?_,fun i x y hi hx hy=>?_⟩
      ·by_cases q:i=j+1
       ·subst q;rw [gE hkl] at hr;cases hr;exact ho
       ·exact h3 i r (by omega) hr
      ·by_cases q:i=j
       ·subst q;rw [hj] at hx;rw [gE hkl] at hy;cases hx;cases hy;exact e
       ·exact h4 i x y (by omega) hx hy
   ·rw [dF ho,notF,notT]
    simp only [andF,orT,cT,cF,oB]
    exact Ans.some (.inr ⟨rfl,fun h=>ho (h.1 _ (List.getElem_mem hkl))⟩)
  ·rw [geI (by omega),cF]
   have e:k=l.length:=by omega
   refine Ans.some (.inl ⟨rfl,fun r hr=>?_,up_of_adj fun i x y hx hy=>h4 i x y (by have:=lt_of_get hy;omega) hx hy⟩)
   obtain ⟨i,hi,q⟩:=List.getElem_of_mem hr
   exact h3 i r (by omega) (by rw [gE hi,q])
 obtain ⟨o,h1,h2⟩:=key
 refine bind_of h1 ?_
 rcases h2 with ⟨rfl,h2,h3⟩ | ⟨rfl,h2⟩
 ·show some (leM (lenM l) 40)=_
  congr 1
  rw [lenI]
  unfold leM
  congr 1
  exact propext ⟨fun h=>⟨h2,h3,by omega⟩,fun h=>by have:=h.2.2;omega⟩
 ·show some false=_
  congr 1
  exact (dF fun h=>h2 ⟨h.1,h.2.1⟩).symm
theorem rValid_eq {l:List Rp} (hl:l.length≤1000000):m53 l=some (decide (OkA l)):=by
 unfold m53
 rw [lenI]
 by_cases h40:40<l.length
 ·rw [ltI (by omega),cT]
  congr 1
  exact (dF fun h=>by have:=h.2.2;omega).symm
 rw [geI (by omega),cF]
 have key:Ans (loopM (fun (s:Int)=>bif ltM s (lenM l) then (idxM l s).bind fun r=>(m63 (r.1,r.2.1,r.2.2.1,r.2.2.2.1,r.2.2.2.2.1,r.2.2.2.2.2.1,r.2.2.2.2.2.2.1,r.2.2.2.2.2.2.2.1,r.2.2.2.2.2.2.2.2)).bind fun r_1=>bif PE.notM r_1 then some (Sum.inr (Sum.inr false)) else (bif ltM 0 s then idxM l (IntKind.wrap .i64 (s-1)) else some (0,0,0,0,0,0,0,[],[])).bind fun r_2=>(bif ltM 0 s then idxM l s else some (0,0,0,0,0,0,0,[],[])).bind fun r_3=>(bif ltM 0 s then m97 ((r_2.1,r_2.2.1,r_2.2.2.1,r_2.2.2.2.1,r_2.2.2.2.2.1,r_2.2.2.2.2.2.1,r_2.2.2.2.2.2.2.1,r_2.2.2.2.2.2.2.2.1,r_2.2.2.2.2.2.2.2.2),r_3.1,r_3.2.1,r_3.2.2.1,r_3.2.2.2.1,r_3.2.2.2.2.1,r_3.2.2.2.2.2.1,r_3.2.2.2.2.2.2.1,r_3.2.2.2.2.2.2.2.1,r_3.2.2.2.2.2.2.2.2) else some false).bind fun r=>bif PE.andM (ltM 0 s) (PE.notM r) then some (Sum.inr (Sum.inr false)) else some (Sum.inl (IntKind.wrap .i64 (s+1))) else some (Sum.inr (Sum.inl ()))) 0)
   (fun (o:Unit⊕Bool)=>(o=.inl ()∧(∀ r∈l,OkR r)∧Up l)∨(o=.inr false∧¬ ((∀ r∈l,OkR r)∧Up l))):=by
  refine Ans.loop (fun k s=>s=k∧k≤l.length∧(∀ i r,i<k→l[i]? = some r→OkR r)∧∀ i x y,i+1<k→l[i]? = some x→l[i+1]? = some y→ltR x y=true) l.length ⟨rfl,by omega,fun i r h=>by omega,fun i x y h=>by omega⟩ ?_
  rintro k s hk ⟨rfl,h2,h3,h4⟩
  rw [lenI]
  by_cases hkl:k<l.length
  ·rw [ltI (by omega),cT,idxM_lt hkl,oB,eR,rOk_eq,oB]
   by_cases ho:OkR l[k]
   ·rw [dT ho,notT,cF]
    by_cases h0:k=0
    ·subst h0
     rw [geI (by omega),cF,oB,cF,oB,cF,oB,andF,cF,wrap_in (by omega) (by omega)]
     refine Ans.some ⟨by omega,rfl,by omega,fun i r hi hr=>?_,fun i x y hi=>by omega⟩
     have:i=0:=by omega
     subst this
     rw [gE hkl] at hr
     cases hr;exact ho
    ·obtain ⟨j,rfl⟩:∃ j,k=j+1:=⟨k-1,by omega⟩
     have hj:l[j]? = some (l[j]'(by omega)):=gE (by omega)
     have hoj:OkR (l[j]'(by omega)):=h3 j _ (by omega) hj
     rw [ltI (a:=0) (by omega),cT,wrap_in (n:=((j+1:Nat):Int)-1) (by omega) (by omega),show ((j+1:Nat):Int)-1=(j:Int) by omega,idxM_lt (by omega),oB,cT,oB,cT,eR,eR,rBef_eq,oB,andT]
     have hlt:=lt2_ok hoj ho
     by_cases e:lt2 (l[j]'(by omega)) l[j+1]
     ·rw [dT e,notT,cF,wrap_in (by omega) (by omega)]
      refine Ans.some ⟨by omega,rfl,by omega,fun i r hi hr=>?_,fun i x y hi hx hy=>?_⟩
      ·by_cases q:i=j+1
       ·subst q;rw [gE hkl] at hr;cases hr;exact ho
       ·exact h3 i r (by omega) hr
      ·by_cases q:i=j
       ·subst q;rw [hj] at hx;rw [gE hkl] at hy;cases hx;cases hy;exact hlt.1 e
       ·exact h4 i x y (by omega) hx hy
     ·rw [dF e,notF,cT]
      refine Ans.some (.inr ⟨rfl,fun h=>?_⟩)
      exact e (hlt.2 (adj_of_up h.2 hj (gE hkl)))
   ·rw [dF ho,notF,cT]
    exact Ans.some (.inr ⟨rfl,fun h=>ho (h.1 _ (List.getElem_mem hkl))⟩)
  ·rw [geI (by omega),cF]
   have e:k=l.length:=by omega
   refine Ans.some (.inl ⟨rfl,fun r hr=>?_,up_of_adj fun i x y hx hy=>h4 i x y (by have:=lt_of_get hy;omega) hx hy⟩)
   obtain ⟨i,hi,q⟩:=List.getElem_of_mem hr
   exact h3 i r (by omega) (by rw [gE hi,q])
 obtain ⟨o,h1,h2⟩:=key
 refine bind_of h1 ?_
 rcases h2 with ⟨rfl,h2,h3⟩ | ⟨rfl,h2⟩
 ·show some true=_
  congr 1
  exact (dT ⟨h2,h3,by omega⟩).symm
 ·show some false=_
  congr 1
  exact (dF fun h=>h2 ⟨h.1,h.2.1⟩).symm
theorem eqR_eq (a b:Rp):PE.andM (eqM a.1 b.1) (PE.andM (eqM a.2.1 b.2.1) (PE.andM (eqM a.2.2.1 b.2.2.1) (PE.andM (eqM a.2.2.2.1 b.2.2.2.1) (PE.andM (eqM a.2.2.2.2.1 b.2.2.2.2.1) (PE.andM (eqM a.2.2.2.2.2.1 b.2.2.2.2.2.1) (PE.andM (eqM a.2.2.2.2.2.2.1 b.2.2.2.2.2.2.1) (PE.andM (eqsM a.2.2.2.2.2.2.2.1 b.2.2.2.2.2.2.2.1) (eqsM a.2.2.2.2.2.2.2.2 b.2.2.2.2.2.2.2.2))))))))=decide (a=b):=by
 obtain ⟨x1,x2,x3,x4,x5,x6,x7,x8,x9⟩:=a
 obtain ⟨y1,y2,y3,y4,y5,y6,y7,y8,y9⟩:=b
 rw [Bool.eq_iff_iff,decide_eq_true_iff]
 unfold PE.andM eqM eqsM
 simp only [bA,decide_eq_true_eq,Prod.mk.injEq]
theorem rHas_eq {l:List Rp} (r:Rp) (hl:l.length≤1000000):m98 (l,r)=some (decide (r∈l)):=by
 unfold m98
 dsimp only
 have key:Ans (loopM (fun (s:Int)=>bif ltM s (lenM l) then (idxM l s).bind fun x=>bif decide (x=r) then some (Sum.inr (Sum.inr true)) else some (Sum.inl (IntKind.wrap .i64 (s+1))) else some (Sum.inr (Sum.inl ()))) 0)
   (fun (o:Unit⊕Bool)=>(o=.inl ()∧r∉l)∨(o=.inr true∧r∈l)):=by
  refine Ans.loop (fun k s=>s=k∧k≤l.length∧∀ i x,i<k→l[i]? = some x→x≠r) l.length ⟨rfl,by omega,fun i r h=>by omega⟩ ?_
  rintro k s hk ⟨rfl,h2,h3⟩
  rw [lenI]
  by_cases hkl:k<l.length
  ·rw [ltI (by omega),cT,idxM_lt hkl,oB]
   by_cases e:l[k]=r
   ·rw [dT e,cT]
    exact Ans.some (.inr ⟨rfl,by rw [← e];exact List.getElem_mem hkl⟩)
   ·rw [dF e,cF,wrap_in (by omega) (by omega)]
    refine Ans.some ⟨by omega,rfl,by omega,fun i x hi hx=>?_⟩
    by_cases q:i=k
    ·subst q;rw [gE hkl] at hx;cases hx;exact e
    ·exact h3 i x (by omega) hx
  ·rw [geI (by omega),cF]
   refine Ans.some (.inl ⟨rfl,fun h=>?_⟩)
   obtain ⟨i,hi,q⟩:=List.getElem_of_mem h
   exact h3 i r (by omega) (by rw [gE hi,q]) rfl
 obtain ⟨o,h1,h2⟩:=key
 simp only [eqR_eq]
 refine bind_of h1 ?_
 rcases h2 with ⟨rfl,h2⟩ | ⟨rfl,h2⟩
 ·show some false=_
  rw [dF h2]
 ·show some true=_
  rw [dT h2]
theorem appR {l m:List Rp} (h:l.length+m.length≤1000000):appM (nat_lit 88) l m=some (l++m):=appM_of (by show _*88≤_;omega)
theorem _root_.Go.PE.Ans.bindEq {α β:Type} {o:Option α} {f:α→Option β} {r:Option β} {Q:α→Prop} (h:Ans o Q) (hf:∀ x,Q x→f x=r):Option.bind o f=r:=by
 obtain ⟨x,h1,h2⟩:=h
 rw [h1];exact hf x h2
theorem len_eq {α:Type} (l:List α) (n:Nat):eqM (lenM l) (n:Int)=decide (l.length=n):=by
 rw [lenI];unfold eqM;congr 1;exact propext (by omega)
theorem filt {α:Type} (p:α→Bool) (xs:List α) {body:Int×List α→Option ((Int×List α)⊕List α)}
  (hb:∀ (k:Nat) (h:k<xs.length) (out:List α),out.length≤k→body ((k:Int),out)=some (.inl ((k:Int)+1,if p xs[k] then out++[xs[k]] else out)))
  (he:∀ out,body ((xs.length:Int),out)=some (.inr out)):loopM body ((0:Int),[])=some (xs.filter p):=by
 refine loopM_at (fun k=>((k:Int),(xs.take k).filter p)) xs.length rfl (fun k hk=>?_) ?_
 ·rw [hb k hk _ (Nat.le_trans (List.length_filter_le _ _) (by rw [lT];omega)),List.take_add_one,gE hk,Option.toList_some,List.filter_append]
  refine congrArg (fun z=>some (Sum.inl ((k:Int)+1,z))) ?_
  cases hp:p xs[k]<;>simp [hp]
 ·rw [he,List.take_length]
theorem putR_in {l:List Rp} {r:Rp} (h:Up l) (hr:r∈l):putR r l=l:=Up.ext (putR_up r h) h fun x=>by
 rw [putR_mem]
 exact ⟨fun q=>q.elim (fun e=>by rw [e];exact hr) id,.inr⟩
theorem putR_at {l:List Rp} {r:Rp} (h:Up l) {k:Nat} (hk:k≤l.length) (h1:∀ i x,i<k→l[i]? = some x→ltR x r=true) (h2:∀ x,l[k]? = some x→ltR r x=true):putR r l=l.take k++r::l.drop k:=by
 have hp:l.Pairwise fun a b=>ltR a b=true:=h
 rw [← List.take_append_drop k l,List.pairwise_append] at hp
 obtain ⟨p1,p2,p3⟩:=hp
 have hb:∀ x∈l.take k,ltR x r=true:=fun x hx=>by
  obtain ⟨i,hi,e⟩:=List.getElem_of_mem hx
  rw [lT] at hi
  exact h1 i x (by omega) (by rw [← e,List.getElem_take,gE (by omega)])
 have ha:∀ x∈l.drop k,ltR r x=true:=fun x hx=>by
  cases e:l.drop k with
  | nil=>rw [e] at hx;simp at hx
  | cons y t =>
   rw [e] at hx p2
   have hy:l[k]? = some y:=by
    have:=congrArg (fun z=>z[0]?) e
    simpa using this
   rcases List.mem_cons.1 hx with q | q
   ·rw [q];exact h2 y hy
   ·exact ltR_trans (h2 y hy) ((List.pairwise_cons.1 p2).1 x q)
 refine Up.ext (putR_up r h) ?_ fun x=>?_
 ·refine List.pairwise_append.2 ⟨p1,List.pairwise_cons.2 ⟨ha,p2⟩,fun x hx y hy=>?_⟩
  rcases List.mem_cons.1 hy with q | q
  ·rw [q];exact hb x hx
  ·exact p3 x hx y q
 ·rw [putR_mem,List.mem_append,List.mem_cons]
  conv=>lhs;rw [← List.take_append_drop k l,List.mem_append]
  constructor
  ·rintro (q | q | q)<;>simp [q]
  ·rintro (q | q | q)<;>simp [q]
theorem rPutR_ok {l:List Rp} {r:Rp} (h:Up l) (hl:∀ x∈l,OkR x) (hr:OkR r) (hn:l.length≤100000):m71 (l,r)=some (putR r l):=by
 unfold m71
 dsimp only
 rw [eR,rHas_eq r (by omega),oB]
 by_cases hm:r∈l
 ·rw [dT hm,cT,putR_in h hm]
 rw [dF hm,cF]
 have key:Ans (loopM (fun (s:Int)=>(bif ltM s (lenM l) then idxM l s else some (0,0,0,0,0,0,0,[],[])).bind fun r_1=>(bif ltM s (lenM l) then m97 (r_1,r) else some false).bind fun r=>bif PE.andM (ltM s (lenM l)) r then some (Sum.inl (IntKind.wrap .i64 (s+1))) else some (Sum.inr s)) 0)
   (fun (o:Int)=>∃ k:Nat,o=k∧k≤l.length∧(∀ i x,i<k→l[i]? = some x→ltR x r=true)∧∀ x,l[k]? = some x→ltR r x=true):=by
  refine Ans.loop (fun k s=>s=k∧k≤l.length∧∀ i x,i<k→l[i]? = some x→ltR x r=true) l.length ⟨rfl,by omega,fun i x h=>by omega⟩ ?_
  rintro k s hk ⟨rfl,h2,h3⟩
  rw [lenI]
  by_cases hkl:k<l.length
  ·have ho:=hl _ (List.getElem_mem hkl)
   have hlt:=lt2_ok ho hr
   rw [ltI (by omega),cT,idxM_lt hkl,oB,cT,rBef_eq,oB,andT]
   by_cases e:lt2 l[k] r
   ·rw [dT e,cT,wrap_in (by omega) (by omega)]
    refine Ans.some ⟨by omega,rfl,by omega,fun i x hi hx=>?_⟩
    by_cases q:i=k
    ·subst q;rw [gE hkl] at hx;cases hx;exact hlt.1 e
    ·exact h3 i x (by omega) hx
   ·rw [dF e,cF]
    refine Ans.some ⟨k,rfl,by omega,h3,fun x hx=>?_⟩
    rw [gE hkl] at hx
    cases hx
    rcases ltR_tri r l[k] with q | q | q
    ·exact q
    ·exact absurd (by rw [q];exact List.getElem_mem hkl) hm
    ·exact absurd (hlt.2 q) e
  ·rw [geI (by omega),cF,oB,cF,oB,andF,cF]
   exact Ans.some ⟨k,rfl,by omega,h3,fun x hx=>by have:=lt_of_get hx;omega⟩
 obtain ⟨o,h1,k,rfl,h2,h3,h4⟩:=key
 refine bind_of h1 ?_
 rw [sameM_self,oB,sliceM_of (by omega) (by omega) (by omega),oB,lenI,sliceM_of (by omega) (by omega) (by omega),oB,appR (by simp;omega),oB,appR (by simp;omega),putR_at h h2 h3 h4,oB]
 simp
theorem putA_ok {m l:List Rp} (hm:∀ x∈m,OkR x) (hl:∀ x∈l,OkR x):∀ x∈putA l m,OkR x:=fun x hx=>by
 rcases (putA_mem m l x).1 hx with q | q
 ·exact hl x q
 ·exact hm x q
theorem putA_len:∀ (m l:List Rp),(putA l m).length≤l.length+m.length
 | [],l=>nR _
 | r::m,l=>by
  have:=putA_len m (putR r l)
  have:=putR_len r l
  show (putA (putR r l) m).length≤_
  rw [List.length_cons];omega
theorem putA_take {m l:List Rp} {k:Nat} (h:k<m.length):putA l (m.take (k+1))=putR m[k] (putA l (m.take k)):=by
 unfold putA
 rw [List.take_add_one,gE h,Option.toList_some,List.foldl_append];rfl
theorem arch_app {a b:List Rp} (ha:Up a):arch (a++b)=putA a b:=by
 refine (up_arch (putA_up b ha) fun x=>?_).symm
 rw [putA_mem,List.mem_append]
theorem rMerge_eq {a b:List Rp} (ha:a.length≤1000000) (hb:b.length≤1000000):m58 (a,b)=some (mrg a b):=by
 unfold m58 mrg
 dsimp only
 rw [rValid_eq ha,oB]
 by_cases h1:OkA a
 ·rw [dT h1,notT,notF,cT,rValid_eq hb,oB,orF]
  by_cases h2:OkA b
  ·obtain ⟨a1,a2,a3⟩:=h1
   obtain ⟨b1,b2,b3⟩:=h2
   rw [dT ⟨b1,b2,b3⟩,notT,cF,if_pos ⟨⟨a1,a2,a3⟩,b1,b2,b3⟩,appR (by simp;omega),oB,List.nil_append]
   refine bind_of (x:=putA a b) (loopM_at (fun k=>(putA a (b.take k),(k:Int))) b.length rfl (fun k hk=>?_) ?_) ?_
   ·have hlen:=putA_len (b.take k) a
    rw [lT] at hlen
    dsimp only
    rw [lenI,ltI (by omega),cT,idxM_lt hk,oB,eR,rPutR_ok (putA_up _ a2) (putA_ok (fun x hx=>b1 x (List.mem_of_mem_take hx)) a1) (b1 _ (List.getElem_mem hk)) (by omega),oB,wrap_in (by omega) (by omega),putA_take hk]
    rfl
   ·dsimp only
    rw [lenI,geI (by omega),cF,List.take_length]
   ·rw [arch_app a2]
    unfold mk40
    rw [lenI]
    by_cases h:(putA a b).length≤40
    ·rw [geI (by omega),cF,if_pos h]
    ·rw [ltI (by omega),cT,if_neg h]
  ·rw [dF h2,notF,cT,if_neg fun h=>h2 h.2]
 ·rw [dF h1,notF,notT,cF,oB,orT,cT,if_neg fun h=>h1 h.1]
theorem rAdd_eq {a:List Rp} {r:Rp} (ha:a.length≤1000000):m50 (a,r)=some (addR a r):=by
 unfold m50
 dsimp only
 rw [eR,rMerge_eq ha (by simp),oB]
 show some (mrg a [r])=_
 unfold mrg addR
 congr 1
 by_cases h:OkA a∧OkR r
 ·rw [if_pos h,if_pos ⟨h.1,fun x hx=>by rw [List.mem_singleton.1 hx];exact h.2,List.pairwise_singleton _ _,by simp⟩]
 ·rw [if_neg h,if_neg fun q=>h ⟨q.1,q.2.1 r (by simp)⟩]
theorem rBel_ok {a:List Rp} {s:Int} (h:OkA a):m47 (a,s)=some (bel a s,hd (bel a s)):=by
 obtain ⟨a1,a2,a3⟩:=h
 unfold m47
 dsimp only
 rw [rHead_nil,oB]
 have hin:∀ out:List Rp,out.length≤1000→loopM (fun (s_1:Int×List Rp)=>bif ltM s_1.1 (lenM a) then ((idxM a s_1.1).bind fun r_1=>(bif eqM r_1.1 s then idxM a s_1.1 else some (0,0,0,0,0,0,0,[],[])).bind fun r_2=>bif PE.andM (eqM r_1.1 s) (eqM r_2.2.1 (lenM out)) then (idxM a s_1.1).bind fun r_3=>(appM (nat_lit 88) s_1.2 [(r_3.1,r_3.2.1,r_3.2.2.1,r_3.2.2.2.1,r_3.2.2.2.2.1,r_3.2.2.2.2.2.1,r_3.2.2.2.2.2.2.1,r_3.2.2.2.2.2.2.2.1,r_3.2.2.2.2.2.2.2.2)]).bind fun r=>some r else some s_1.2).bind fun o=>some (Sum.inl (IntKind.wrap .i64 (s_1.1+1),o)) else some (Sum.inr s_1.2)) ((0:Int),[])=some (atN a s out.length):=fun out ho=>by
  refine filt (fun r=>decide (r.sv=s)&&decide (r.nu=(out.length:Int))) a (fun k hk o2 h2=>?_) (fun o2=>?_)
  ·dsimp only
   rw [lenI,ltI (by omega),cT,idxM_lt hk,oB,wrap_in (by omega) (by omega)]
   by_cases e1:a[k].1=s
   ·rw [eqI e1,cT,oB,andT]
    by_cases e2:a[k].2.1=(out.length:Int)
    ·rw [eqI (by rw [lenI];exact e2),cT,oB,eR,appR (by simp;omega),oB,oB,if_pos (by simp [e1,e2])]
    ·rw [neI (by rw [lenI];exact e2),cF,oB,if_neg (by simp [e2])]
   ·rw [neI e1,cF,oB,andF,cF,oB,if_neg (by simp [e1])]
  ·dsimp only
   rw [lenI,geI (by omega),cF]
 refine Ans.bindEq (Q:=fun o=>IsBel a s o.2∧o.1=hd o.2) ?_ fun o h=>by rw [h.2,h.1.eq]
 refine Ans.loop (fun k s'=>Pbel a s s'.2∧s'.2.length=k∧s'.1=hd s'.2) a.length ⟨Pbel.nil a s,rfl,rfl⟩ ?_
 rintro k ⟨hh,acc⟩ hk ⟨h1,h2,h3⟩
 dsimp only at h1 h2 h3 ⊢
 refine Ans.seq (hin acc (by omega)) ?_
 by_cases hlen:(atN a s acc.length).length=1
 ·obtain ⟨r,hr⟩:=List.length_eq_one_iff.1 hlen
  rw [hr,show lenM [r]=1 from rfl,eqI rfl,notT,notF,cT,chkM_of (by omega) (by omega),oB,cT,show idxM [r] 0=some r from rfl,oB,oB,orF]
  have hm:=atN_mem.1 (show r∈atN a s acc.length by rw [hr];simp)
  have hok:=a1 r hm.1
  by_cases e:r.pv=hd acc
  ·rw [eqsT (by rw [h3];exact e),notT,cF,oB,oB,appR (by simp;omega),oB,oB,oB,rEn_all,oB,en2_ok hok,h3,rChain_ok (by have:=okR_len hok;have:=hd_len acc;omega),oB]
   have hs:=h1.snoc hr e
   have hl:=hs.len
   simp only [lA,List.length_singleton] at hl
   exact Ans.some ⟨by omega,hs,by simp [h2],by dsimp only;rw [hd_snoc]⟩
  ·rw [eqsF (by rw [h3];exact e),notF,cT]
   exact Ans.some ⟨⟨h1,fun x hx=>by rw [hr] at hx;cases hx;exact e⟩,h3⟩
 ·rw [show (1:Int)=((1:Nat):Int) from rfl,len_eq,dF hlen,notF,notT,cF,oB,cF,oB,orT,cT]
  exact Ans.some ⟨⟨h1,fun x hx=>by rw [hx] at hlen;exact absurd rfl hlen⟩,h3⟩
theorem rpt0:rptM [(0:UInt8)] 32=some h0:=rfl
theorem own_filter {a:List Rp} {s:Int} {n:Nat}:atN a s n=(a.filter fun r=>decide (r.sv=s)).filter fun r=>decide (r.nu=(n:Int)):=by
 unfold atN
 rw [List.filter_filter]
 congr 1
 funext r
 rw [Bool.and_comm]
theorem wBel_ok {a:List Rp} {s:Int} (h:OkA a):m79 (a,s)=some (bel a s,hd (bel a s)):=by
 obtain ⟨a1,a2,a3⟩:=h
 unfold m79
 dsimp only
 refine bind_of (x:=a.filter fun r=>decide (r.sv=s)) (filt (fun r:Rp=>decide (r.sv=s)) a (fun k hk o2 h2=>?_) (fun o2=>?_)) ?_
 ·dsimp only
  rw [lenI,ltI (by omega),cT,idxM_lt hk,oB,wrap_in (by omega) (by omega)]
  by_cases e1:a[k].1=s
  ·rw [eqI e1,cT,eR,appR (by simp;omega),oB,oB,if_pos (by simp [e1])]
  ·rw [neI e1,cF,oB,if_neg (by simp [e1])]
 ·dsimp only
  rw [lenI,geI (by omega),cF]
 refine bind_of rpt0 ?_
 have hat:∀ n,atN a s n=(a.filter fun r=>decide (r.sv=s)).filter fun r=>decide (r.nu=(n:Int)):=fun n=>own_filter
 have hup:Up (a.filter fun r=>decide (r.sv=s)):=List.Pairwise.filter _ a2
 have hsv:∀ x∈a.filter (fun r=>decide (r.sv=s)),x.sv=s∧OkR x:=fun x hx=>by
  rw [List.mem_filter] at hx;exact ⟨by simpa using hx.2,a1 x hx.1⟩
 have hlen:(a.filter fun r=>decide (r.sv=s)).length≤40:=Nat.le_trans (List.length_filter_le _ _) a3
 generalize a.filter (fun r=>decide (r.sv=s))=o at *
 have mono:∀ (pre:List Rp) (x:Rp) (t:List Rp),o=pre++x::t→∀ y∈t,x.nu≤y.nu:=fun pre x t e y hy=>by
  have hp:(pre++x::t).Pairwise fun a b=>ltR a b=true:=e▸hup
  have:=(List.pairwise_cons.1 (List.pairwise_append.1 hp).2.1).1 y hy
  rw [ltR_iff] at this
  have q1:=(hsv x (by rw [e];simp)).1
  have q2:=(hsv y (by rw [e];simp [hy])).1
  omega
 refine Ans.bindEq (Q:=fun z=>∃ k:Nat,z.2=k∧k≤o.length∧IsBel a s (o.take k)∧z.1=hd (o.take k)) ?_ fun z hz=>?_
 ·refine Ans.loop (fun k z=>∃ acc rest,o=acc++rest∧acc.length=k∧Pbel a s acc∧(∀ x∈acc,x.nu<(k:Int))∧(∀ x∈rest,(k:Int)≤x.nu)∧z=(hd acc,(k:Int))) o.length ⟨[],o,rfl,rfl,Pbel.nil a s,fun x hx=>by simp at hx,fun x hx=>(hsv x hx).2.2.2.1,rfl⟩ ?_
  rintro k z hk ⟨acc,rest,e,hk1,h1,h2,h3,rfl⟩
  dsimp only
  have hak:atN a s k=rest.filter fun r=>decide (r.nu=(k:Int)):=by
   rw [hat k,e,List.filter_append,List.filter_eq_nil_iff.2 fun x hx=>?_,List.nil_append]
   have:=h2 x hx
   simp;omega
  have htk:o.take k=acc:=by rw [e,← hk1,List.take_left]
  match rest,e,h3,hak with
  | [],e,h3,hak =>
   have hl:o.length=k:=by rw [e,← hk1];simp
   rw [lenI,geI (by omega)]
   simp only [cF,oB,andF]
   refine Ans.some ⟨k,rfl,by omega,⟨by rw [htk];exact h1,fun r hr=>?_⟩,by rw [htk]⟩
   rw [htk,hk1,hak] at hr;simp at hr
  | x::t,e,h3,hak =>
   have hl:k<o.length:=by rw [e,← hk1];simp
   have hx:o[k]? = some x:=by rw [e,← hk1];simp
   have hix:idxM o (k:Int)=some x:=by rw [idxM_nat,hx]
   have hck:chkM (k:Int) (lenM o)=some ():=chkM_of (by omega) (by rw [lenI];omega)
   have hxo:=hsv x (by rw [e];simp)
   have hmt:=mono acc x t e
   rw [hck,hix,ltI (a:=(k:Int)) (by rw [lenI];omega)]
   simp only [cT,oB,andT]
   by_cases c1:x.nu=(k:Int)
   ·rw [eqI (show x.2.1=(k:Int) from c1)]
    simp only [cT,oB,andT]
    have hfx:(x::t).filter (fun r=>decide (r.nu=(k:Int)))=x::t.filter (fun r=>decide (r.nu=(k:Int))):=List.filter_cons_of_pos (by simpa using c1)
    by_cases c2:x.pv=hd acc
    ·rw [eqsT (show x.2.2.2.2.2.2.2.1=hd acc from c2)]
     simp only [cT]
     rw [wrap_in (n:=(k:Int)+1) (by omega) (by omega)]
     match t,e,hmt,hfx,hak with
     | [],e,hmt,hfx,hak =>
      have hl2:o.length=k+1:=by rw [e,← hk1];simp
      rw [lenI,geI (a:=(k:Int)+1) (by omega)]
      simp only [cF,oB,andF]
      rw [eR,wEn_all,oB,en2_ok hxo.2,wChain_ok (by have:=(okR_len hxo.2).2;have:=hd_len acc;omega),oB]
      refine Ans.some ⟨by omega,acc++[x],[],by rw [e];simp,by simp [hk1],h1.snoc (by rw [hk1,hak,hfx];rfl) c2,fun y hy=>?_,fun y hy=>by simp at hy,by rw [hd_snoc];rfl⟩
      rcases List.mem_append.1 hy with q | q
      ·have:=h2 y q;omega
      ·rw [List.mem_singleton.1 q];omega
     | y::u,e,hmt,hfx,hak =>
      have hl2:k+1<o.length:=by rw [e,← hk1];simp
      have hy:o[k+1]? = some y:=by rw [e,← hk1];simp
      have hy2:idxM o ((k:Int)+1)=some y:=by
       have:=idxM_nat o (k+1)
       rw [hy] at this;exact this
      rw [ltI (a:=(k:Int)+1) (by rw [lenI];omega)]
      simp only [cT]
      rw [chkM_of (by omega) (by rw [lenI];omega),oB,hy2,oB,oB,andT]
      by_cases c3:y.nu=(k:Int)
      ·rw [eqI (show y.2.1=(k:Int) from c3),cT]
       refine Ans.some ⟨k,rfl,by omega,⟨by rw [htk];exact h1,fun r hr=>?_⟩,by rw [htk]⟩
       rw [htk,hk1,hak,hfx,List.filter_cons_of_pos (by simpa using c3)] at hr
       simp at hr
      ·rw [neI (show y.2.1≠(k:Int) from c3),cF]
       have hmy:=mono (acc++[x]) y u (by rw [e];simp)
       have hy3:(k:Int)≤y.nu:=h3 y (by simp)
       have hge:∀ z∈y::u,((k+1:Nat):Int)≤z.nu:=fun z hz=>by
        rcases List.mem_cons.1 hz with q | q
        ·rw [q];omega
        ·have:=hmy z q;omega
       have hnil:(y::u).filter (fun r=>decide (r.nu=(k:Int)))=[]:=List.filter_eq_nil_iff.2 fun z hz=>by
        have:=hge z hz
        simp;omega
       rw [eR,wEn_all,oB,en2_ok hxo.2,wChain_ok (by have:=(okR_len hxo.2).2;have:=hd_len acc;omega),oB]
       refine Ans.some ⟨by omega,acc++[x],y::u,by rw [e];simp,by simp [hk1],h1.snoc (by rw [hk1,hak,hfx,hnil]) c2,fun z hz=>?_,hge,by rw [hd_snoc];rfl⟩
       rcases List.mem_append.1 hz with q | q
       ·have:=h2 z q;omega
       ·rw [List.mem_singleton.1 q];omega
    ·rw [eqsF (show x.2.2.2.2.2.2.2.1≠hd acc from c2),cF]
     refine Ans.some ⟨k,rfl,by omega,⟨by rw [htk];exact h1,fun r hr=>?_⟩,by rw [htk]⟩
     rw [htk]
     rw [htk,hk1,hak,hfx] at hr
     simp only [List.cons.injEq] at hr
     rw [← hr.1];exact c2
   ·rw [neI (show x.2.1≠(k:Int) from c1)]
    simp only [cF,oB,andF]
    refine Ans.some ⟨k,rfl,by omega,⟨by rw [htk];exact h1,fun r hr=>?_⟩,by rw [htk]⟩
    have h4:(k:Int)≤x.nu:=h3 x (by simp)
    have:(x::t).filter (fun r=>decide (r.nu=(k:Int)))=[]:=List.filter_eq_nil_iff.2 fun z hz=>by
     rcases List.mem_cons.1 hz with q | q
     ·rw [q];simpa using c1
     ·have:=hmt z q;simp;omega
    rw [htk,hk1,hak,this] at hr
    simp at hr
 ·obtain ⟨k,hk,hk2,hb,hh⟩:=hz
  rw [hk,hh,sliceM_of (by omega) (by omega) (by omega),oB,hb.eq]
  simp
theorem rWrite_eq {key:Bs} {a:List Rp} {r:Rp} (ha:a.length≤1000000):m49 (key,a,r)=some (wrR key a r):=by
 unfold m49 wrR
 dsimp only
 rw [lenI]
 by_cases hk:key.length=32
 ·rw [eqI (by omega),notT,notF,cT,rValid_eq ha,oB,orF]
  by_cases h1:OkA a
  ·rw [dT h1,notT,cF,if_pos ⟨hk,h1⟩,rBel_ok h1,oB]
   dsimp only
   have e:((r.1,lenM (bel a r.1),r.2.2.1,r.2.2.2.1,r.2.2.2.2.1,r.2.2.2.2.2.1,r.2.2.2.2.2.2.1,hd (bel a r.1),hd (bel a r.1)):Rp)=fix3 r (bel a r.sv).length (hd (bel a r.sv)) (hd (bel a r.sv)):=rfl
   rw [e,rOk_eq,oB]
   by_cases h2:OkR (fix3 r (bel a r.sv).length (hd (bel a r.sv)) (hd (bel a r.sv)))
   ·rw [dT h2,notT,cF,rTag_ok (by omega) h2,oB,if_pos h2]
    rfl
   ·rw [dF h2,notF,cT,if_neg h2];rfl
  ·rw [dF h1,notF,cT,if_neg fun h=>h1 h.2];rfl
 ·rw [neI (by omega),notF,notT,cF,oB,orT,cT,if_neg fun h=>hk h.1];rfl
theorem wWrite_eq {key:Bs} {a:List Rp} {r:Rp} (ha:a.length≤1000000):m37 (key,a,r)=some (wrR key a r):=by
 unfold m37 wrR
 dsimp only
 rw [lenI]
 by_cases hk:key.length=32
 ·rw [eqI (by omega),notT,notF,cT,wValid_eq ha,oB,orF]
  by_cases h1:OkA a
  ·rw [dT h1,notT,cF,if_pos ⟨hk,h1⟩,wBel_ok h1,oB]
   dsimp only
   have e:((r.1,lenM (bel a r.1),r.2.2.1,r.2.2.2.1,r.2.2.2.2.1,r.2.2.2.2.2.1,r.2.2.2.2.2.2.1,hd (bel a r.1),hd (bel a r.1)):Rp)=fix3 r (bel a r.sv).length (hd (bel a r.sv)) (hd (bel a r.sv)):=rfl
   rw [e,wOk_eq,oB]
   by_cases h2:OkR (fix3 r (bel a r.sv).length (hd (bel a r.sv)) (hd (bel a r.sv)))
   ·rw [dT h2,notT,cF,wTag_ok (by omega) h2,oB,if_pos h2]
    rfl
   ·rw [dF h2,notF,cT,if_neg h2];rfl
  ·rw [dF h1,notF,cT,if_neg fun h=>h1 h.2];rfl
 ·rw [neI (by omega),notF,notT,cF,oB,orT,cT,if_neg fun h=>hk h.1];rfl
def has64 (n:Int):Prop:=-9223372036854775808≤n∧n≤9223372036854775807
theorem pick39_eq {c n:Int} (hc:has64 c) (hn:0<n):m48 (c,n)=some (pickN c n):=pk_text hc hn
theorem lpick_eq {c n:Int} (hc:has64 c) (hn:0<n):m14 (c,n)=some (pickN c n):=pk_text hc hn
theorem key_eq {n:Int} (hn:has64 n):m17 n=some (keyN n):=by
 unfold m17 keyN
 have:=pickN_lt (c:=n) (show (0:Int)<256 by omega)
 rw [pick39_eq hn (by omega),oB,wu8_in this.1 this.2]
 show (m52 [UInt8.ofNat (pickN n 256).toNat]).bind (fun r=>some r)=_
 rw [rSum_ok (by simp),oB]
def has6 (x:X6):Prop:=has64 x.1∧has64 x.2.1∧has64 x.2.2.1∧has64 x.2.2.2.1∧has64 x.2.2.2.2.1∧has64 x.2.2.2.2.2
theorem draft_eq {x:X6} (h:has6 x) {n:Int} (h0:0≤n) (hn:n≤1000):m35 (x,n)=some (draft x n):=by
 obtain ⟨g1,g2,g3,g4,g5,g6⟩:=h
 unfold m35 draft
 dsimp only
 have a4:=pickN_lt (c:=x.2.2.2.1) (show (0:Int)<20001 by omega)
 rw [pick39_eq g1 (by omega),oB,pick39_eq g2 (by omega),oB,pick39_eq g3 (by omega),oB,pick39_eq g4 (by omega),oB,pick39_eq g5 (by omega),oB]
 by_cases c1:pickN x.2.2.2.2.1 4=3∧0<n
 ·rw [eqI c1.1,andT,ltI c1.2,cT,pick39_eq g6 c1.2,oB,if_pos c1]
 ·rw [if_neg c1]
  have:PE.andM (eqM (pickN x.2.2.2.2.1 4) 3) (ltM 0 n)=false:=by
   unfold PE.andM eqM ltM
   rw [← Bool.decide_and];exact dF c1
  rw [this,cF,wrap_in (by omega) (by omega)]
end Go.Proofs.YtdnabfadigkjgaaGreatDoor
