/-
 Texts of this proof, put together: M2, M3, M4, PA, F, Fs, PB, PC, PD, Fa, Fd, Fe, Fp, Fk, Fl, Fm, Fn, Fo, Fq, Fr, Ft, Fu, Fv, Fw.
 No conditions.
-/
import Derived.Test.YtechphmljdgoaaaGreatDoorZ5
import Derived.IntWalk
set_option linter.all false
namespace Go.Proofs.YtechphmljdgoaaaGreatDoor
open Go Go.Abs Go.PE Go.Proofs
open Go.IntKind (wrap)
set_option maxRecDepth 100000
noncomputable section

/-! putlog/field.Above -/
def as18:List Ty:=[(.pair tI (.pair tI (.pair tL tL))),tI]
def rs18:List Ty:=[(.pair .str .str),(.pair .str .str),tI]
def an18_0:Ann:=.kp [] ⟨[(21,.r (.c (.d (.d tI))))],[],[],[]⟩ (.seq (.a) (.a)) (.kp [] ⟨[(25,.r (.c (.d (.d tI))))],[],[],[]⟩ (.seq (.a) (.a)) (.kp [] ⟨[(29,.r (.c (.d (.d tI))))],[],[],[]⟩ (.seq (.a) (.a)) (.a)))
def an18:Ann:=.seq (.a) (.seq (.a) (.seq (.reg [] [] [.s [0] [],z0,.r,z0,z0,z0,.s [] [11],.s [] [12],.s [11] [11],.s [12] [12]] (.call [] [] (.seq (.a) (.seq (.reg [0,0,0,4,14,31,0,0,0,256,959,2047,4095,8191] (ra 0 14 ([])) [z0,.s [4] [],z0,.s [4] [],.k [7,8],.k [],z0,.s [4] [],z0,.s [4] [],.k [9,10],.k [],.s [5] [5],.s [6] [6]] (.kp [] ⟨[(10,.r (.c (.f 92 [] [.p 7 0,.p 8 0])))],[],[],[.box [.d (.d tL)],.box [.d (.d tI),.d (.d tI),.d (.d tL),.d (.d tL)]]⟩ (.seq (.a) (.a)) (.kp [30] ⟨[(11,.r (.s [.d (.d .str),.d (.d .str)]))],[],[],[]⟩ (.seq (.a) (.seq (.a) (.seq (.a) (.seq (.seq (.reg [] [] [.s [0] [],.r] (.call [] [] (.seq (.a) (.a)) (.a))) (.block (.call [] [] (.seq (.a) (.block (.loop ⟨[(9,.r (.c (.d (.d tI))))],(3::4::5::6::ra 10 39 ([])),[(11,.box [.d (.d .str),.d (.d .str)]),(14,.lp .ready)],[]⟩ [(.exit 0,⟨[],(3::4::5::6::ra 9 40 ([])),[(11,.box [.d (.d .str),.d (.d .str)]),(14,.lp .ready)],[]⟩)] (.seq (.a) (.seq (.a) (.seq (.block (.seq (.a) (.seq (.a) (.block (.loop ⟨[(14,.r (.c (.d (.d tI))))],(4::5::6::ra 15 33 ([])),[(11,.box [.d (.d .str),.d (.d .str)]),(14,.lp .ready)],[]⟩ [(.exit 2,⟨[],(4::5::6::ra 14 34 ([])),[(11,.box [.d (.d .str),.d (.d .str)]),(14,.lp .ready)],[]⟩)] (.seq (.a) (.seq (.a) (.seq (.block (.seq (.a) (.seq (.a) (.seq (.reg [] [] [z0,.s [15] [],z0,z0,z0,z0,.s [16] [],z0,.r,z0,z0,z0,.s [15] [],.s [16] [],z0,z0,z0,z0,z0,.r,z0,z0] (.call [30] [] (.seq (.a) (.join [(.norm,⟨[],(9::ra 18 96 ([])),[(11,.box [.d (.d .str),.d (.d .str)])],[]⟩)] (.block (.seq (.reg [0,0,2,7,0,0,32,127,0,0,512,2047,4095,8191] (ra 0 14 ([])) [.s [9] [],z0,.s [17] [],.k [],.s [9] [],z0,.s [17] [],.k [],.s [9] [],z0,.s [17] [],.k [],.s [] [18],z0] an18_0) (.seq (.a) (.block (.seq (.reg [0,1,3,0,15,31] (ra 0 6 ([])) [z0,.s [18] [],.s [18] [],.s [1] [],z0,z0] (.a)) (.cond (.reg [] [] [.s [12] [],.r] (.call [] [] (.seq (.a) (.a)) (.a))) (.seq (.reg [0,1,3,0,15,31] (ra 0 6 ([])) [z0,.s [18] [],.s [18] [],.s [1] [],z0,z0] (.a)) (.cond (.seq (.reg [] [] [.s [12] [],.r] (.call [] [] (.seq (.a) (.a)) (.a))) (.reg [0,0,0,4,12,30,62,0,0,256,768,1920,4094,0,8192,24576,0,65536,196608,516096,1040384,0,2097152,6291456,0,16777216,50331648,132120576,268427264,536870911] (ra 0 30 ([])) [.s [12] [],.s [1] [],z0,.s [18] [],.s [18] [],z0,z0,.s [1] [],z0,.s [18] [],.s [18] [],z0,z0,z0,.s [18] [],.s [18] [],z0,.s [18] [],.s [18] [],z0,z0,z0,.s [18] [],.s [18] [],z0,.s [18] [],.s [18] [],z0,z0,.r] (.call [] [] (.seq (.a) (.a)) (.a)))) (.seq (.reg [0,1,3,0,15,31] (ra 0 6 ([])) [z0,.s [18] [],.s [18] [],.s [1] [],z0,z0] (.a)) (.cond (.reg [0,0,2,6,0,30,0,64,192,0,960,2046,0,4096,12288,0,32768,98304,258048,520192,0,1048576,3145728,0,8388608,25165824,66060288,134213632,268435455] (ra 0 29 ([])) [.s [12] [],z0,.s [18] [],.s [18] [],.s [1] [],z0,z0,.s [18] [],.s [18] [],.s [1] [],z0,z0,z0,.s [18] [],.s [18] [],z0,.s [18] [],.s [18] [],z0,z0,z0,.s [18] [],.s [18] [],z0,.s [18] [],.s [18] [],z0,z0,.r] (.call [] [] (.seq (.a) (.a)) (.a))) (.a))))))))))))) (.gq z0 (.gq (.s [15] []) (.gq (.s [16] []) (.gq z0 (.gq z0 (.gq z0 (.gq z0 (.gq z0 (.gq (.r) (.call [30] [] (.seq (.a) (.join [(.norm,⟨[],(9::ra 18 96 ([])),[(11,.box [.d (.d .str),.d (.d .str)])],[]⟩)] (.block (.seq (.reg [0,0,2,7,0,0,32,127,0,0,512,2047,4095,8191] (ra 0 14 ([])) [.s [9] [],z0,.s [18] [],.k [],.s [9] [],z0,.s [18] [],.k [],.s [9] [],z0,.s [18] [],.k [],.s [] [19],z0] an18_0) (.seq (.a) (.block (.seq (.reg [0,1,3,0,15,31] (ra 0 6 ([])) [z0,.s [19] [],.s [19] [],.s [1] [],z0,z0] (.a)) (.cond (.reg [] [] [.s [12] [],.r] (.call [] [] (.seq (.a) (.a)) (.a))) (.seq (.reg [0,1,3,0,15,31] (ra 0 6 ([])) [z0,.s [19] [],.s [19] [],.s [1] [],z0,z0] (.a)) (.cond (.seq (.reg [] [] [.s [12] [],.r] (.call [] [] (.seq (.a) (.a)) (.a))) (.reg [0,0,0,4,12,30,62,0,0,256,768,1920,4094,0,8192,24576,0,65536,196608,516096,1040384,0,2097152,6291456,0,16777216,50331648,132120576,268427264,536870911] (ra 0 30 ([])) [.s [12] [],.s [1] [],z0,.s [19] [],.s [19] [],z0,z0,.s [1] [],z0,.s [19] [],.s [19] [],z0,z0,z0,.s [19] [],.s [19] [],z0,.s [19] [],.s [19] [],z0,z0,z0,.s [19] [],.s [19] [],z0,.s [19] [],.s [19] [],z0,z0,.r] (.call [] [] (.seq (.a) (.a)) (.a)))) (.seq (.reg [0,1,3,0,15,31] (ra 0 6 ([])) [z0,.s [19] [],.s [19] [],.s [1] [],z0,z0] (.a)) (.cond (.reg [0,0,2,6,0,30,0,64,192,0,960,2046,0,4096,12288,0,32768,98304,258048,520192,0,1048576,3145728,0,8388608,25165824,66060288,134213632,268435455] (ra 0 29 ([])) [.s [12] [],z0,.s [19] [],.s [19] [],.s [1] [],z0,z0,.s [19] [],.s [19] [],.s [1] [],z0,z0,z0,.s [19] [],.s [19] [],z0,.s [19] [],.s [19] [],z0,z0,z0,.s [19] [],.s [19] [],z0,.s [19] [],.s [19] [],z0,z0,.r] (.call [] [] (.seq (.a) (.a)) (.a))) (.a))))))))))))) (.gq z0 (.a) (.a))) (.a)) (.a)) (.a)) (.a)) (.a)) (.a)) (.a)) (.a)) (.a)))) (.a))))) (.a))))))))) (.a))))))) (.a)))) (.a))))) (.kp [] ⟨[(16,.r (.c (.f 92 [] [.p 9 0,.p 10 0])))],[],[],[.box [.d (.d tL)],.box [.d (.d tI),.d (.d tI),.d (.d tL),.d (.d tL)]]⟩ (.seq (.a) (.a)) (.kp [30] ⟨[(17,.r (.s [.d (.d .str),.d (.d .str)]))],[],[],[]⟩ (.seq (.a) (.seq (.a) (.seq (.a) (.seq (.seq (.reg [] [] [.s [0] [],.r] (.call [] [] (.seq (.a) (.a)) (.a))) (.block (.call [] [] (.seq (.a) (.block (.loop ⟨[(9,.r (.c (.d (.d tI))))],(3::4::5::6::ra 10 39 ([])),[(13,.box [.d (.d .str),.d (.d .str)]),(16,.lp .ready)],[]⟩ [(.exit 0,⟨[],(3::4::5::6::ra 9 40 ([])),[(13,.box [.d (.d .str),.d (.d .str)]),(16,.lp .ready)],[]⟩)] (.seq (.a) (.seq (.a) (.seq (.block (.seq (.a) (.seq (.a) (.block (.loop ⟨[(14,.r (.c (.d (.d tI))))],(4::5::6::ra 15 33 ([])),[(13,.box [.d (.d .str),.d (.d .str)]),(16,.lp .ready)],[]⟩ [(.exit 2,⟨[],(4::5::6::ra 14 34 ([])),[(13,.box [.d (.d .str),.d (.d .str)]),(16,.lp .ready)],[]⟩)] (.seq (.a) (.seq (.a) (.seq (.block (.seq (.a) (.seq (.a) (.seq (.reg [] [] [z0,.s [17] [],z0,z0,z0,z0,.s [18] [],z0,.r,z0,z0,z0,.s [17] [],.s [18] [],z0,z0,z0,z0,z0,.r,z0,z0] (.call [30] [] (.seq (.a) (.join [(.norm,⟨[],(9::ra 18 96 ([])),[(13,.box [.d (.d .str),.d (.d .str)])],[]⟩)] (.block (.seq (.reg [0,0,2,7,0,0,32,127,0,0,512,2047,4095,8191] (ra 0 14 ([])) [.s [11] [],z0,.s [19] [],.k [],.s [11] [],z0,.s [19] [],.k [],.s [11] [],z0,.s [19] [],.k [],.s [] [20],z0] an18_0) (.seq (.a) (.block (.seq (.reg [0,1,3,0,15,31] (ra 0 6 ([])) [z0,.s [20] [],.s [20] [],.s [1] [],z0,z0] (.a)) (.cond (.reg [] [] [.s [14] [],.r] (.call [] [] (.seq (.a) (.a)) (.a))) (.seq (.reg [0,1,3,0,15,31] (ra 0 6 ([])) [z0,.s [20] [],.s [20] [],.s [1] [],z0,z0] (.a)) (.cond (.seq (.reg [] [] [.s [14] [],.r] (.call [] [] (.seq (.a) (.a)) (.a))) (.reg [0,0,0,4,12,30,62,0,0,256,768,1920,4094,0,8192,24576,0,65536,196608,516096,1040384,0,2097152,6291456,0,16777216,50331648,132120576,268427264,536870911] (ra 0 30 ([])) [.s [14] [],.s [1] [],z0,.s [20] [],.s [20] [],z0,z0,.s [1] [],z0,.s [20] [],.s [20] [],z0,z0,z0,.s [20] [],.s [20] [],z0,.s [20] [],.s [20] [],z0,z0,z0,.s [20] [],.s [20] [],z0,.s [20] [],.s [20] [],z0,z0,.r] (.call [] [] (.seq (.a) (.a)) (.a)))) (.seq (.reg [0,1,3,0,15,31] (ra 0 6 ([])) [z0,.s [20] [],.s [20] [],.s [1] [],z0,z0] (.a)) (.cond (.reg [0,0,2,6,0,30,0,64,192,0,960,2046,0,4096,12288,0,32768,98304,258048,520192,0,1048576,3145728,0,8388608,25165824,66060288,134213632,268435455] (ra 0 29 ([])) [.s [14] [],z0,.s [20] [],.s [20] [],.s [1] [],z0,z0,.s [20] [],.s [20] [],.s [1] [],z0,z0,z0,.s [20] [],.s [20] [],z0,.s [20] [],.s [20] [],z0,z0,z0,.s [20] [],.s [20] [],z0,.s [20] [],.s [20] [],z0,z0,.r] (.call [] [] (.seq (.a) (.a)) (.a))) (.a))))))))))))) (.gq z0 (.gq (.s [17] []) (.gq (.s [18] []) (.gq z0 (.gq z0 (.gq z0 (.gq z0 (.gq z0 (.gq (.r) (.call [30] [] (.seq (.a) (.join [(.norm,⟨[],(9::ra 18 96 ([])),[(13,.box [.d (.d .str),.d (.d .str)])],[]⟩)] (.block (.seq (.reg [0,0,2,7,0,0,32,127,0,0,512,2047,4095,8191] (ra 0 14 ([])) [.s [11] [],z0,.s [20] [],.k [],.s [11] [],z0,.s [20] [],.k [],.s [11] [],z0,.s [20] [],.k [],.s [] [21],z0] an18_0) (.seq (.a) (.block (.seq (.reg [0,1,3,0,15,31] (ra 0 6 ([])) [z0,.s [21] [],.s [21] [],.s [1] [],z0,z0] (.a)) (.cond (.reg [] [] [.s [14] [],.r] (.call [] [] (.seq (.a) (.a)) (.a))) (.seq (.reg [0,1,3,0,15,31] (ra 0 6 ([])) [z0,.s [21] [],.s [21] [],.s [1] [],z0,z0] (.a)) (.cond (.seq (.reg [] [] [.s [14] [],.r] (.call [] [] (.seq (.a) (.a)) (.a))) (.reg [0,0,0,4,12,30,62,0,0,256,768,1920,4094,0,8192,24576,0,65536,196608,516096,1040384,0,2097152,6291456,0,16777216,50331648,132120576,268427264,536870911] (ra 0 30 ([])) [.s [14] [],.s [1] [],z0,.s [21] [],.s [21] [],z0,z0,.s [1] [],z0,.s [21] [],.s [21] [],z0,z0,z0,.s [21] [],.s [21] [],z0,.s [21] [],.s [21] [],z0,z0,z0,.s [21] [],.s [21] [],z0,.s [21] [],.s [21] [],z0,z0,.r] (.call [] [] (.seq (.a) (.a)) (.a)))) (.seq (.reg [0,1,3,0,15,31] (ra 0 6 ([])) [z0,.s [21] [],.s [21] [],.s [1] [],z0,z0] (.a)) (.cond (.reg [0,0,2,6,0,30,0,64,192,0,960,2046,0,4096,12288,0,32768,98304,258048,520192,0,1048576,3145728,0,8388608,25165824,66060288,134213632,268435455] (ra 0 29 ([])) [.s [14] [],z0,.s [21] [],.s [21] [],.s [1] [],z0,z0,.s [21] [],.s [21] [],.s [1] [],z0,z0,z0,.s [21] [],.s [21] [],z0,.s [21] [],.s [21] [],z0,z0,z0,.s [21] [],.s [21] [],z0,.s [21] [],.s [21] [],z0,z0,.r] (.call [] [] (.seq (.a) (.a)) (.a))) (.a))))))))))))) (.gq z0 (.a) (.a))) (.a)) (.a)) (.a)) (.a)) (.a)) (.a)) (.a)) (.a)) (.a)))) (.a))))) (.a))))))))) (.a))))))) (.a)))) (.a))))) (.a)))))) (.a))) (.a))) (.seq (.reg [0,0,1,7,15] [0,1,2,3,4] [.s [11] [],.s [12] [],.s [2] [2],.s [3] [3],z0] (.a)) (.a))))
def m18:((Int×Int×List Int×List Int)×Int)→Option ((List UInt8×List UInt8)×(List UInt8×List UInt8)×Int) :=
 fun x=>(m31 (x.1.1,x.1.2.1,x.1.2.2.1,x.1.2.2.2)).bind fun r=>(bif PE.notM (PE.notM r) then m36 (x.2,0,100) else some false).bind fun r_1=>bif PE.orM
 (PE.notM r) (PE.notM r_1) then some (([],[]),([],[]),250) else ((m25 (0,1)).bind fun r_2=>(loopM (fun (s:Int×List UInt8×List UInt8)=>bif ltM
 s.1 x.1.2.1 then (loopM (fun (s_1:Int×List UInt8×List UInt8)=>bif ltM s_1.1 x.1.1 then (((idxM x.1.2.2.1 (wrap .i64 (wrap .i64 (s.1 *
 wrap .i64 (x.1.1+1))+s_1.1))).bind fun r=>some r).bind fun (ov:Int)=>((idxM x.1.2.2.1 (wrap .i64 (wrap .i64 (s.1*wrap
 IntKind.i64 (x.1.1+1))+wrap .i64 (s_1.1+1)))).bind fun r=>some r).bind fun (ov_1:Int)=>((idxM x.1.2.2.1 (wrap .i64 (wrap IntKind.i64
 (wrap .i64 (s.1+1)*wrap .i64 (x.1.1+1))+wrap .i64 (s_1.1+1)))).bind fun r=>some r).bind fun (ov_2:Int)=>(sortI [ov,ov_1,
 ov_2]).bind fun r_3=>(chkM 0 (lenM r_3)).bind fun r_4=>(idxM r_3 0).bind fun r_5=>bif ltM x.2 r_5 then (m25 (1,2)).bind fun r_6=>(m49 ((s_1.2.1,
 s_1.2.2),r_6.1.1,r_6.1.2)).bind fun r=>some (r.1.1,r.1.2) else (chkM 1 (lenM r_3)).bind fun r_6=>(idxM r_3 1).bind fun r_7=>bif ltM x.2 r_7 then (m25
 (1,2)).bind fun r_8=>(m49 ((s_1.2.1,s_1.2.2),r_8.1.1,r_8.1.2)).bind fun r_9=>(chkM 0 (lenM r_3)).bind fun r_10=>(idxM r_3 0).bind fun r_11=>(chkM
 0 (lenM r_3)).bind fun r_12=>(idxM r_3 0).bind fun r_13=>(chkM 1 (lenM r_3)).bind fun r_14=>(idxM r_3 1).bind fun r_15=>(chkM 0 (lenM r_3)).bind fun
 r_16=>(idxM r_3 0).bind fun r_17=>(chkM 2 (lenM r_3)).bind fun r_18=>(idxM r_3 2).bind fun r_19=>(chkM 0 (lenM r_3)).bind fun r_20=>(idxM r_3
 0).bind fun r_21=>(m25 (wrap .i64 (wrap .i64 (negM (wrap .i64 (x.2-r_11)))*wrap .i64 (x.2-r_13)),wrap .i64 (wrap
 IntKind.i64 (2*wrap .i64 (r_15-r_17))*wrap .i64 (r_19-r_21)))).bind fun r_22=>(m49 ((r_9.1.1,r_9.1.2),r_22.1.1,r_22.1.2)).bind fun
 r=>some (r.1.1,r.1.2) else (chkM 2 (lenM r_3)).bind fun r_8=>(idxM r_3 2).bind fun r_9=>bif ltM x.2 r_9 then (chkM 2 (lenM r_3)).bind fun r_10=>(idxM
 r_3 2).bind fun r_11=>(chkM 2 (lenM r_3)).bind fun r_12=>(idxM r_3 2).bind fun r_13=>(chkM 2 (lenM r_3)).bind fun r_14=>(idxM r_3 2).bind fun r_15 =>
 (chkM 0 (lenM r_3)).bind fun r_16=>(idxM r_3 0).bind fun r_17=>(chkM 2 (lenM r_3)).bind fun r_18=>(idxM r_3 2).bind fun r_19=>(chkM 1 (lenM r_3)).bind
 fun r_20=>(idxM r_3 1).bind fun r_21=>(m25 (wrap .i64 (wrap .i64 (r_11-x.2)*wrap .i64 (r_13-x.2)),wrap .i64 (wrap
 IntKind.i64 (2*wrap .i64 (r_15-r_17))*wrap .i64 (r_19-r_21)))).bind fun r_22=>(m49 ((s_1.2.1,s_1.2.2),r_22.1.1,r_22.1.2)).bind fun
 r=>some (r.1.1,r.1.2) else some (s_1.2.1,s_1.2.2)).bind fun o=>(((idxM x.1.2.2.1 (wrap .i64 (wrap .i64 (s.1*wrap .i64 (x.1.1 +
 1))+s_1.1))).bind fun r=>some r).bind fun (ov:Int)=>((idxM x.1.2.2.1 (wrap .i64 (wrap .i64 (wrap .i64 (s.1+1)*wrap
 IntKind.i64 (x.1.1+1))+wrap .i64 (s_1.1+1)))).bind fun r=>some r).bind fun (ov_1:Int)=>((idxM x.1.2.2.1 (wrap .i64 (wrap IntKind.i64
 (wrap .i64 (s.1+1)*wrap .i64 (x.1.1+1))+s_1.1))).bind fun r=>some r).bind fun (ov_2:Int)=>(sortI [ov,ov_1,ov_2]).bind fun r_3 =>
 (chkM 0 (lenM r_3)).bind fun r_4=>(idxM r_3 0).bind fun r_5=>bif ltM x.2 r_5 then (m25 (1,2)).bind fun r_6=>(m49 ((o.1,o.2),r_6.1.1,r_6.1.2)).bind
 fun r=>some (r.1.1,r.1.2) else (chkM 1 (lenM r_3)).bind fun r_6=>(idxM r_3 1).bind fun r_7=>bif ltM x.2 r_7 then (m25 (1,2)).bind fun r_8=>(m49
 ((o.1,o.2),r_8.1.1,r_8.1.2)).bind fun r_9=>(chkM 0 (lenM r_3)).bind fun r_10=>(idxM r_3 0).bind fun r_11=>(chkM 0 (lenM r_3)).bind fun r_12=>(idxM
 r_3 0).bind fun r_13=>(chkM 1 (lenM r_3)).bind fun r_14=>(idxM r_3 1).bind fun r_15=>(chkM 0 (lenM r_3)).bind fun r_16=>(idxM r_3 0).bind fun r_17 =>
 (chkM 2 (lenM r_3)).bind fun r_18=>(idxM r_3 2).bind fun r_19=>(chkM 0 (lenM r_3)).bind fun r_20=>(idxM r_3 0).bind fun r_21=>(m25 (wrap IntKind.i64
 (wrap .i64 (negM (wrap .i64 (x.2-r_11)))*wrap .i64 (x.2-r_13)),wrap .i64 (wrap .i64 (2*wrap .i64 (r_15 -
 r_17))*wrap .i64 (r_19-r_21)))).bind fun r_22=>(m49 ((r_9.1.1,r_9.1.2),r_22.1.1,r_22.1.2)).bind fun r=>some (r.1.1,r.1.2) else (chkM 2
 (lenM r_3)).bind fun r_8=>(idxM r_3 2).bind fun r_9=>bif ltM x.2 r_9 then (chkM 2 (lenM r_3)).bind fun r_10=>(idxM r_3 2).bind fun r_11=>(chkM 2 (lenM
 r_3)).bind fun r_12=>(idxM r_3 2).bind fun r_13=>(chkM 2 (lenM r_3)).bind fun r_14=>(idxM r_3 2).bind fun r_15=>(chkM 0 (lenM r_3)).bind fun r_16 =>
 (idxM r_3 0).bind fun r_17=>(chkM 2 (lenM r_3)).bind fun r_18=>(idxM r_3 2).bind fun r_19=>(chkM 1 (lenM r_3)).bind fun r_20=>(idxM r_3 1).bind fun
 r_21=>(m25 (wrap .i64 (wrap .i64 (r_11-x.2)*wrap .i64 (r_13-x.2)),wrap .i64 (wrap .i64 (2*wrap .i64 (r_15
 - r_17))*wrap .i64 (r_19-r_21)))).bind fun r_22=>(m49 ((o.1,o.2),r_22.1.1,r_22.1.2)).bind fun r=>some (r.1.1,r.1.2) else some (o.1,
 o.2)).bind fun o=>some (Sum.inl (wrap .i64 (s_1.1+1),o.1,o.2)) else some (Sum.inr (s_1.2.1,s_1.2.2))) (0,s.2.1,s.2.2)).bind fun o=>some
 (Sum.inl (wrap .i64 (s.1+1),o.1,o.2)) else some (Sum.inr (s.2.1,s.2.2))) (0,r_2.1.1,r_2.1.2)).bind fun o=>some (o.1,o.2)).bind fun (ov:List
 UInt8×List UInt8)=>((m25 (0,1)).bind fun r_2=>(loopM (fun (s:Int×List UInt8×List UInt8)=>bif ltM s.1 x.1.2.1 then (loopM (fun (s_1:Int×List
 UInt8×List UInt8)=>bif ltM s_1.1 x.1.1 then (((idxM x.1.2.2.2 (wrap .i64 (wrap .i64 (s.1*wrap .i64 (x.1.1+1))+s_1.1))).bind fun
 r=>some r).bind fun (ov_1:Int)=>((idxM x.1.2.2.2 (wrap .i64 (wrap .i64 (s.1*wrap .i64 (x.1.1+1))+wrap .i64 (s_1.1 +
 1)))).bind fun r=>some r).bind fun (ov_2:Int)=>((idxM x.1.2.2.2 (wrap .i64 (wrap .i64 (wrap .i64 (s.1+1)*wrap IntKind.i64
 (x.1.1+1))+wrap .i64 (s_1.1+1)))).bind fun r=>some r).bind fun (ov_3:Int)=>(sortI [ov_1,ov_2,ov_3]).bind fun r_3=>(chkM 0 (lenM
 r_3)).bind fun r_4=>(idxM r_3 0).bind fun r_5=>bif ltM x.2 r_5 then (m25 (1,2)).bind fun r_6=>(m49 ((s_1.2.1,s_1.2.2),r_6.1.1,r_6.1.2)).bind fun r
 => some (r.1.1,r.1.2) else (chkM 1 (lenM r_3)).bind fun r_6=>(idxM r_3 1).bind fun r_7=>bif ltM x.2 r_7 then (m25 (1,2)).bind fun r_8=>(m49 ((s_1.2.1,
 s_1.2.2),r_8.1.1,r_8.1.2)).bind fun r_9=>(chkM 0 (lenM r_3)).bind fun r_10=>(idxM r_3 0).bind fun r_11=>(chkM 0 (lenM r_3)).bind fun r_12=>(idxM r_3
 0).bind fun r_13=>(chkM 1 (lenM r_3)).bind fun r_14=>(idxM r_3 1).bind fun r_15=>(chkM 0 (lenM r_3)).bind fun r_16=>(idxM r_3 0).bind fun r_17 =>
 (chkM 2 (lenM r_3)).bind fun r_18=>(idxM r_3 2).bind fun r_19=>(chkM 0 (lenM r_3)).bind fun r_20=>(idxM r_3 0).bind fun r_21=>(m25 (wrap IntKind.i64
 (wrap .i64 (negM (wrap .i64 (x.2-r_11)))*wrap .i64 (x.2-r_13)),wrap .i64 (wrap .i64 (2*wrap .i64 (r_15 -
 r_17))*wrap .i64 (r_19-r_21)))).bind fun r_22=>(m49 ((r_9.1.1,r_9.1.2),r_22.1.1,r_22.1.2)).bind fun r=>some (r.1.1,r.1.2) else (chkM 2
 (lenM r_3)).bind fun r_8=>(idxM r_3 2).bind fun r_9=>bif ltM x.2 r_9 then (chkM 2 (lenM r_3)).bind fun r_10=>(idxM r_3 2).bind fun r_11=>(chkM 2 (lenM
 r_3)).bind fun r_12=>(idxM r_3 2).bind fun r_13=>(chkM 2 (lenM r_3)).bind fun r_14=>(idxM r_3 2).bind fun r_15=>(chkM 0 (lenM r_3)).bind fun r_16 =>
 (idxM r_3 0).bind fun r_17=>(chkM 2 (lenM r_3)).bind fun r_18=>(idxM r_3 2).bind fun r_19=>(chkM 1 (lenM r_3)).bind fun r_20=>(idxM r_3 1).bind fun
 r_21=>(m25 (wrap .i64 (wrap .i64 (r_11-x.2)*wrap .i64 (r_13-x.2)),wrap .i64 (wrap .i64 (2*wrap .i64 (r_15
 - r_17))*wrap .i64 (r_19-r_21)))).bind fun r_22=>(m49 ((s_1.2.1,s_1.2.2),r_22.1.1,r_22.1.2)).bind fun r=>some (r.1.1,r.1.2) else some
 (s_1.2.1,s_1.2.2)).bind fun o=>(((idxM x.1.2.2.2 (wrap .i64 (wrap .i64 (s.1*wrap .i64 (x.1.1+1))+s_1.1))).bind fun r=>some
 r).bind fun (ov_1:Int)=>((idxM x.1.2.2.2 (wrap .i64 (wrap .i64 (wrap .i64 (s.1+1)*wrap .i64 (x.1.1+1))+wrap
 IntKind.i64 (s_1.1+1)))).bind fun r=>some r).bind fun (ov_2:Int)=>((idxM x.1.2.2.2 (wrap .i64 (wrap .i64 (wrap .i64 (s.1+1) *
 wrap .i64 (x.1.1+1))+s_1.1))).bind fun r=>some r).bind fun (ov_3:Int)=>(sortI [ov_1,ov_2,ov_3]).bind fun r_3=>(chkM 0 (lenM r_3)).bind
 fun r_4=>(idxM r_3 0).bind fun r_5=>bif ltM x.2 r_5 then (m25 (1,2)).bind fun r_6=>(m49 ((o.1,o.2),r_6.1.1,r_6.1.2)).bind fun r=>some (r.1.1,
 r.1.2) else (chkM 1 (lenM r_3)).bind fun r_6=>(idxM r_3 1).bind fun r_7=>bif ltM x.2 r_7 then (m25 (1,2)).bind fun r_8=>(m49 ((o.1,o.2),r_8.1.1,
 r_8.1.2)).bind fun r_9=>(chkM 0 (lenM r_3)).bind fun r_10=>(idxM r_3 0).bind fun r_11=>(chkM 0 (lenM r_3)).bind fun r_12=>(idxM r_3 0).bind fun r_13
 => (chkM 1 (lenM r_3)).bind fun r_14=>(idxM r_3 1).bind fun r_15=>(chkM 0 (lenM r_3)).bind fun r_16=>(idxM r_3 0).bind fun r_17=>(chkM 2 (lenM
 r_3)).bind fun r_18=>(idxM r_3 2).bind fun r_19=>(chkM 0 (lenM r_3)).bind fun r_20=>(idxM r_3 0).bind fun r_21=>(m25 (wrap .i64 (wrap
 IntKind.i64 (negM (wrap .i64 (x.2-r_11)))*wrap .i64 (x.2-r_13)),wrap .i64 (wrap .i64 (2*wrap .i64 (r_15-r_17)) *
 wrap .i64 (r_19-r_21)))).bind fun r_22=>(m49 ((r_9.1.1,r_9.1.2),r_22.1.1,r_22.1.2)).bind fun r=>some (r.1.1,r.1.2) else (chkM 2 (lenM
 r_3)).bind fun r_8=>(idxM r_3 2).bind fun r_9=>bif ltM x.2 r_9 then (chkM 2 (lenM r_3)).bind fun r_10=>(idxM r_3 2).bind fun r_11=>(chkM 2 (lenM
 r_3)).bind fun r_12=>(idxM r_3 2).bind fun r_13=>(chkM 2 (lenM r_3)).bind fun r_14=>(idxM r_3 2).bind fun r_15=>(chkM 0 (lenM r_3)).bind fun r_16 =>
 (idxM r_3 0).bind fun r_17=>(chkM 2 (lenM r_3)).bind fun r_18=>(idxM r_3 2).bind fun r_19=>(chkM 1 (lenM r_3)).bind fun r_20=>(idxM r_3 1).bind fun
 r_21=>(m25 (wrap .i64 (wrap .i64 (r_11-x.2)*wrap .i64 (r_13-x.2)),wrap .i64 (wrap .i64 (2*wrap .i64 (r_15
 - r_17))*wrap .i64 (r_19-r_21)))).bind fun r_22=>(m49 ((o.1,o.2),r_22.1.1,r_22.1.2)).bind fun r=>some (r.1.1,r.1.2) else some (o.1,
 o.2)).bind fun o=>some (Sum.inl (wrap .i64 (s_1.1+1),o.1,o.2)) else some (Sum.inr (s_1.2.1,s_1.2.2))) (0,s.2.1,s.2.2)).bind fun o=>some
 (Sum.inl (wrap .i64 (s.1+1),o.1,o.2)) else some (Sum.inr (s.2.1,s.2.2))) (0,r_2.1.1,r_2.1.2)).bind fun o=>some (o.1,o.2)).bind fun (ov_1 :
 List UInt8×List UInt8)=>some ((ov.1,ov.2),(ov_1.1,ov_1.2),0)
theorem c18:SpecOK Tryz.prog 18 ⟨as18,rs18,m18⟩ :=
 fc tabs17OK [] an18 Tryz.f18 fun x=>by kernel_rfl
def tabs18:Tabs:=Tabs.add tabs17 18 ⟨as18,rs18,m18⟩
theorem tabs18OK:TabOK Tryz.prog tabs18:=TabOK.add tabs17OK c18 Tryz.call18

/-! putlog/field.made -/
def as35:List Ty:=[(.pair tI (.pair tI (.pair tL tL)))]
def rs35:List Ty:=[(.pair tI (.pair tI (.pair tL tL))),tI]
def an35:Ann:=.a
def m35:(Int×Int×List Int×List Int)→Option ((Int×Int×List Int×List Int)×Int) :=
 fun x=>(m31 (x.1,x.2.1,x.2.2.1,x.2.2.2)).bind fun r=>bif PE.notM r then some ((0,0,[],[]),250) else some ((x.1,x.2.1,x.2.2.1,x.2.2.2),0)
theorem c35:SpecOK Tryz.prog 35 ⟨as35,rs35,m35⟩ :=
 fc tabs18OK [] an35 Tryz.f35 fun x=>by kernel_rfl
def tabs35:Tabs:=Tabs.add tabs18 35 ⟨as35,rs35,m35⟩
theorem tabs35OK:TabOK Tryz.prog tabs35:=TabOK.add tabs18OK c35 Tryz.call35

/-! putlog/field.Refine -/
def as11:List Ty:=[(.pair tI (.pair tI (.pair tL tL)))]
def rs11:List Ty:=[(.pair tI (.pair tI (.pair tL tL))),tI]
def an11:Ann:=.seq (.a) (.seq (.a) (.seq (.a) (.seq (.reg [] [] [.s [0] [],z0,.r,z0,z0,z0,z0,.s [2,6] [2],z0,.s [2,9] [2]] (.call [] [] (.seq (.a) (.seq (.reg [0,0,0,4,14,31,0,0,0,256,959,2047,4095,8191] (ra 0 14 ([])) [z0,.s [3] [],z0,.s [3] [],.k [4,5],.k [6],z0,.s [3] [],z0,.s [3] [],.k [7,8],.k [9],z0,z0] (.kp [] ⟨[(10,.r (.c (.f 92 [] [.p 4 0,.p 5 0])))],[],[],[.box [.d (.d tL)],.box [.d (.d tI),.d (.d tI),.d (.d tL),.d (.d tL)]]⟩ (.seq (.a) (.a)) (.kp [] ⟨[(11,.r (.c (.h 6)))],[],[],[.arr tI]⟩ (.seq (.a) (.seq (.a) (.seq (.seq (.a) (.block (.loop ⟨[(4,.r (.c (.h 6))),(10,.r (.c (.d (.d tI))))],(5::6::ra 11 30 ([])),[],[.arr tI]⟩ [(.exit 0,⟨[(4,.r (.c (.h 6)))],(5::6::ra 10 31 ([])),[],[.arr tI]⟩)] (.seq (.a) (.seq (.a) (.seq (.block (.seq (.a) (.seq (.a) (.block (.loop ⟨[(4,.r (.c (.h 7))),(16,.r (.c (.d (.d tI))))],(6::ra 17 23 ([])),[(6,.gone)],[.arr tI]⟩ [(.exit 2,⟨[(4,.r (.c (.h 7)))],(6::ra 16 24 ([])),[(6,.gone)],[.arr tI]⟩)] (.seq (.a) (.seq (.a) (.seq (.block (.seq (.a) (.reg [] [] [z0,z0,z0,z0,z0,z0,z0,.r,z0,z0,z0,z0,z0,z0,z0,z0,.r,z0,z0,.s [7] [10,7],z0] (.call [] [] (.seq (.a) (.a)) (.call [] [] (.seq (.a) (.a)) (.a)))))) (.a))))))))) (.a))))))) (.a)))) (.kp [] ⟨[(16,.r (.c (.f 92 [] [.p 7 0,.p 8 0])))],[],[],[.box [.d (.d tL)],.box [.d (.d tI),.d (.d tI),.d (.d tL),.d (.d tL)]]⟩ (.seq (.a) (.a)) (.kp [] ⟨[(17,.r (.c (.h 9)))],[],[],[.arr tI]⟩ (.seq (.a) (.seq (.a) (.seq (.seq (.a) (.block (.loop ⟨[(4,.r (.c (.h 9))),(10,.r (.c (.d (.d tI))))],(5::6::ra 11 30 ([])),[],[.arr tI]⟩ [(.exit 0,⟨[(4,.r (.c (.h 9)))],(5::6::ra 10 31 ([])),[],[.arr tI]⟩)] (.seq (.a) (.seq (.a) (.seq (.block (.seq (.a) (.seq (.a) (.block (.loop ⟨[(4,.r (.c (.h 10))),(16,.r (.c (.d (.d tI))))],(6::ra 17 23 ([])),[(9,.gone)],[.arr tI]⟩ [(.exit 2,⟨[(4,.r (.c (.h 10)))],(6::ra 16 24 ([])),[(9,.gone)],[.arr tI]⟩)] (.seq (.a) (.seq (.a) (.seq (.block (.seq (.a) (.reg [] [] [z0,z0,z0,z0,z0,z0,z0,.r,z0,z0,z0,z0,z0,z0,z0,z0,.r,z0,z0,.s [10] [13,10],z0] (.call [] [] (.seq (.a) (.a)) (.call [] [] (.seq (.a) (.a)) (.a)))))) (.a))))))))) (.a))))))) (.a)))) (.a)))))) (.a))) (.a))) (.a))))
def m11:(Int×Int×List Int×List Int)→Option ((Int×Int×List Int×List Int)×Int) :=
 fun x=>(m31 (x.1,x.2.1,x.2.2.1,x.2.2.2)).bind fun r=>bif PE.notM r then some ((0,0,[],[]),250) else ((loopM (fun (s:Int×List Int)=>bif ltM s.1
 (wrap .i64 (wrap .i64 (2*x.2.1)+1)) then (loopM (fun (s_1:Int×List Int)=>bif ltM s_1.1 (wrap .i64 (wrap .i64 (2*x.1) +
 1)) then (divM .i64 s_1.1 2).bind fun r_1=>(divM .i64 s.1 2).bind fun r_2=>(idxM x.2.2.1 (wrap .i64 (wrap .i64 (r_2*wrap
 IntKind.i64 (x.1+1))+r_1))).bind fun r_3=>(divM .i64 (wrap .i64 (s_1.1+1)) 2).bind fun r_4=>(divM .i64 (wrap .i64 (s.1 +
 1)) 2).bind fun r_5=>(idxM x.2.2.1 (wrap .i64 (wrap .i64 (r_5*wrap .i64 (x.1+1))+r_4))).bind fun r_6=>(appM (nat_lit 8) s_1.2
 [wrap .i64 (r_3+r_6)]).bind fun r=>some (Sum.inl (wrap .i64 (s_1.1+1),r)) else some (Sum.inr s_1.2)) (0,s.2)).bind fun o=>some
 (Sum.inl (wrap .i64 (s.1+1),o)) else some (Sum.inr s.2)) (0,[])).bind fun o=>some o).bind fun (ov:List Int)=>((loopM (fun (s:Int×List
 Int)=>bif ltM s.1 (wrap .i64 (wrap .i64 (2*x.2.1)+1)) then (loopM (fun (s_1:Int×List Int)=>bif ltM s_1.1 (wrap .i64 (wrap
 IntKind.i64 (2*x.1)+1)) then (divM .i64 s_1.1 2).bind fun r_1=>(divM .i64 s.1 2).bind fun r_2=>(idxM x.2.2.2 (wrap .i64 (wrap
 IntKind.i64 (r_2*wrap .i64 (x.1+1))+r_1))).bind fun r_3=>(divM .i64 (wrap .i64 (s_1.1+1)) 2).bind fun r_4=>(divM IntKind.i64
 (wrap .i64 (s.1+1)) 2).bind fun r_5=>(idxM x.2.2.2 (wrap .i64 (wrap .i64 (r_5*wrap .i64 (x.1+1))+r_4))).bind fun r_6 =>
 (appM (nat_lit 8) s_1.2 [wrap .i64 (r_3+r_6)]).bind fun r=>some (Sum.inl (wrap .i64 (s_1.1+1),r)) else some (Sum.inr s_1.2)) (0,
 s.2)).bind fun o=>some (Sum.inl (wrap .i64 (s.1+1),o)) else some (Sum.inr s.2)) (0,[])).bind fun o=>some o).bind fun (ov_1:List Int)=>(m35
 (wrap .i64 (2*x.1),wrap .i64 (2*x.2.1),ov,ov_1)).bind fun r=>some ((r.1.1,r.1.2.1,r.1.2.2.1,r.1.2.2.2),r.2)
theorem c11:SpecOK Tryz.prog 11 ⟨as11,rs11,m11⟩ :=
 fc tabs35OK [] an11 Tryz.f11 fun x=>by kernel_rfl
def tabs11:Tabs:=Tabs.add tabs35 11 ⟨as11,rs11,m11⟩
theorem tabs11OK:TabOK Tryz.prog tabs11:=TabOK.add tabs35OK c11 Tryz.call11

/-! putlog/field.Add -/
def as20:List Ty:=[(.pair tI (.pair tI (.pair tL tL))),(.pair tI (.pair tI (.pair tL tL)))]
def rs20:List Ty:=[(.pair tI (.pair tI (.pair tL tL))),tI]
def an20:Ann:=.seq (.a) (.seq (.a) (.seq (.reg [0,1,0,4,0,16,48,0,128,496,1023,0,4095] (ra 0 13 ([])) [z0,.s [0] [],z0,.s [0] [],z0,.s [0] [],.s [] [3],z0,.s [0] [],.s [] [4],z0,.s [] [5],.s [5,3,4] [5]] (.a)) (.seq (.seq (.a) (.block (.loop ⟨[(45,.r (.c (.d (.d tI))))],(7::ra 46 27 ([])),[(3,.arr tI),(4,.arr tI)],[]⟩ [(.exit 0,⟨[],(7::ra 45 28 ([])),[(3,.arr tI),(4,.arr tI)],[]⟩)] (.seq (.a) (.seq (.a) (.seq (.block (.seq (.a) (.seq (.reg [0,1,0,7,15,0,32,0,224,480,1023,2047,4095] (ra 0 13 ([])) (z0::.s [5] []::z0::.s [3] []::.s [3] []::z0::.s [1] []::za 4 (.s [3] []::.s [3] [3]::[])) (.a)) (.reg [0,1,0,7,15,0,32,0,224,480,1023,2047,4095] (ra 0 13 ([])) (z0::.s [5] []::z0::.s [4] []::.s [4] []::z0::.s [1] []::za 4 (.s [4] []::.s [4] [4]::[])) (.a))))) (.a))))))) (.a))))
def m20:((Int×Int×List Int×List Int)×Int×Int×List Int×List Int)→Option ((Int×Int×List Int×List Int)×Int) :=
 fun x=>(m31 (x.1.1,x.1.2.1,x.1.2.2.1,x.1.2.2.2)).bind fun r=>(bif PE.notM (PE.notM r) then m31 (x.2.1,x.2.2.1,x.2.2.2.1,x.2.2.2.2) else some
 false).bind fun r_1=>bif PE.orM (PE.orM (PE.orM (PE.notM r) (PE.notM r_1)) (PE.notM (eqM x.1.1 x.2.1))) (PE.notM (eqM x.1.2.1 x.2.2.1)) then some ((0,0,
 [],[]),250) else (mo54 x.1.2.2.1).bind fun r_2=>(mo54 x.1.2.2.2).bind fun r_3=>(loopM (fun (s:Int×List Int×List Int)=>bif ltM s.1 (lenM r_2)
 then (chkM s.1 (lenM s.2.1)).bind fun r_4=>(idxM s.2.1 s.1).bind fun r_5=>(idxM x.2.2.2.1 s.1).bind fun r_6=>(chkM s.1 (lenM s.2.1)).bind fun r_7 =>
 (setM s.2.1 s.1 fun (x:Int)=>some (wrap .i64 (r_5+r_6))).bind fun r_8=>(chkM s.1 (lenM s.2.2)).bind fun r_9=>(idxM s.2.2 s.1).bind fun r_10
 => (idxM x.2.2.2.2 s.1).bind fun r_11=>(chkM s.1 (lenM s.2.2)).bind fun r_12=>(setM s.2.2 s.1 fun (x:Int)=>some (wrap .i64 (r_10+r_11))).bind
 fun r=>some (Sum.inl (wrap .i64 (s.1+1),r_8,r)) else some (Sum.inr (s.2.1,s.2.2))) (0,r_2,r_3)).bind fun o=>(m35 (x.1.1,x.1.2.1,o.1,
 o.2)).bind fun r=>some ((r.1.1,r.1.2.1,r.1.2.2.1,r.1.2.2.2),r.2)
theorem c20:SpecOK Tryz.prog 20 ⟨as20,rs20,m20⟩ :=
 fc (TabOK.drop tabs11OK [54]) [] an20 Tryz.f20 fun x=>by kernel_rfl
def tabs20:Tabs:=Tabs.add tabs11 20 ⟨as20,rs20,m20⟩
theorem tabs20OK:TabOK Tryz.prog tabs20:=TabOK.add tabs11OK c20 Tryz.call20

/-! putlog/field.Scale -/
def as21:List Ty:=[(.pair tI (.pair tI (.pair tL tL))),tI]
def rs21:List Ty:=[(.pair tI (.pair tI (.pair tL tL))),tI]
def an21:Ann:=.seq (.a) (.seq (.a) (.seq (.reg [0,1,0,4,0,16,48,0,128,496,1023,0,4095] (ra 0 13 ([])) [z0,.s [0] [],z0,.s [0] [],z0,.s [0] [],.s [] [2],z0,.s [0] [],.s [] [3],z0,.s [] [4],.s [4,2,3] [4]] (.a)) (.seq (.seq (.a) (.block (.loop ⟨[(31,.r (.c (.d (.d tI))))],(7::ra 32 19 ([])),[(2,.arr tI),(3,.arr tI)],[]⟩ [(.exit 0,⟨[],(7::ra 31 20 ([])),[(2,.arr tI),(3,.arr tI)],[]⟩)] (.a)))) (.a))))
def m21:((Int×Int×List Int×List Int)×Int)→Option ((Int×Int×List Int×List Int)×Int) :=
 fun x=>(m31 (x.1.1,x.1.2.1,x.1.2.2.1,x.1.2.2.2)).bind fun r=>(bif PE.notM (PE.notM r) then m36 (x.2,0,100) else some false).bind fun r_1=>bif PE.orM
 (PE.notM r) (PE.notM r_1) then some ((0,0,[],[]),250) else (mo54 x.1.2.2.1).bind fun r_2=>(mo54 x.1.2.2.2).bind fun r_3=>(loopM (fun (s:Int×List
 Int×List Int)=>bif ltM s.1 (lenM r_2) then (chkM s.1 (lenM s.2.1)).bind fun r_4=>(idxM s.2.1 s.1).bind fun r_5=>(chkM s.1 (lenM s.2.1)).bind fun r_6
 => (setM s.2.1 s.1 fun (x_1:Int)=>some (wrap .i64 (r_5*x.2))).bind fun r_7=>(chkM s.1 (lenM s.2.2)).bind fun r_8=>(idxM s.2.2 s.1).bind fun
 r_9=>(chkM s.1 (lenM s.2.2)).bind fun r_10=>(setM s.2.2 s.1 fun (x_1:Int)=>some (wrap .i64 (r_9*x.2))).bind fun r=>some (Sum.inl (wrap
 IntKind.i64 (s.1+1),r_7,r)) else some (Sum.inr (s.2.1,s.2.2))) (0,r_2,r_3)).bind fun o=>(m35 (x.1.1,x.1.2.1,o.1,o.2)).bind fun r=>some ((r.1.1,
 r.1.2.1,r.1.2.2.1,r.1.2.2.2),r.2)
theorem c21:SpecOK Tryz.prog 21 ⟨as21,rs21,m21⟩ :=
 fc (TabOK.drop tabs20OK [54]) [] an21 Tryz.f21 fun x=>by kernel_rfl
def tabs21:Tabs:=Tabs.add tabs20 21 ⟨as21,rs21,m21⟩
theorem tabs21OK:TabOK Tryz.prog tabs21:=TabOK.add tabs20OK c21 Tryz.call21

/-! putlog/field.Changed -/
def as29:List Ty:=[(.pair tI (.pair tI (.pair tL tL))),(.pair tI (.pair tI (.pair tL tL)))]
def rs29:List Ty:=[tL,tI]
def an29:Ann:=.seq (.a) (.seq (.a) (.seq (.a) (.seq (.seq (.a) (.block (.loop ⟨[(38,.r (.c (.d (.d tI))))],(7::8::9::ra 39 54 ([])),[(2,.arr tI)],[]⟩ [(.exit 0,⟨[],(7::8::9::ra 38 55 ([])),[(2,.arr tI)],[]⟩)] (.seq (.a) (.seq (.a) (.seq (.join [(.norm,⟨[],(7::8::9::ra 40 52 ([])),[(2,.arr tI)],[]⟩)] (.block (.seq (.a) (.seq (.reg [0,1,0,7,15,0,32,0,224,480,1023,0,2048,0,14336,30720,0,65536,0,458752,983040,2095104,0,0,12584959,33554431] (ra 0 26 ([])) (z0::.s [0] []::za 4 (.s [0] []::za 5 (.s [1] []::za 4 (.s [1] []::za 4 (.s [] [3]::.s [] [4]::.s [3] [3]::.s [4] [4]::[]))))) (.a)) (.a))))) (.a))))))) (.a))))
def m29:((Int×Int×List Int×List Int)×Int×Int×List Int×List Int)→Option (List Int×Int) :=
 fun x=>(m31 (x.1.1,x.1.2.1,x.1.2.2.1,x.1.2.2.2)).bind fun r=>(bif PE.notM (PE.notM r) then m31 (x.2.1,x.2.2.1,x.2.2.2.1,x.2.2.2.2) else some
 false).bind fun r_1=>bif PE.orM (PE.orM (PE.orM (PE.notM r) (PE.notM r_1)) (PE.notM (eqM x.1.1 x.2.1))) (PE.notM (eqM x.1.2.1 x.2.2.1)) then some ([],250)
 else (mkM (lenM x.1.2.2.1) (lenM x.1.2.2.1) (nat_lit 8) 0).bind fun r_2=>(loopM (fun (s:Int×List Int)=>bif ltM s.1 (lenM r_2) then ((idxM x.1.2.2.1
 s.1).bind fun r_3=>(idxM x.1.2.2.2 s.1).bind fun r_4=>(idxM x.2.2.2.1 s.1).bind fun r_5=>(idxM x.2.2.2.2 s.1).bind fun r_6=>bif ltM (min r_4 r_6) (max
 r_3 r_5) then (chkM s.1 (lenM s.2)).bind fun r_7=>(setM s.2 s.1 fun (x:Int)=>some 2).bind fun r=>some r else bif PE.orM (PE.notM (PE.andM (eqM r_3
 r_5) (eqM r_4 r_6))) (PE.notM (eqM r_3 r_4)) then (chkM s.1 (lenM s.2)).bind fun r_7=>(setM s.2 s.1 fun (x:Int)=>some 1).bind fun r=>some r else some
 s.2).bind fun o=>some (Sum.inl (wrap .i64 (s.1+1),o)) else some (Sum.inr s.2)) (0,r_2)).bind fun o=>some (o,0)
theorem c29:SpecOK Tryz.prog 29 ⟨as29,rs29,m29⟩ :=
 fc tabs21OK [] an29 Tryz.f29 fun x=>by kernel_rfl
def tabs29:Tabs:=Tabs.add tabs21 29 ⟨as29,rs29,m29⟩
theorem tabs29OK:TabOK Tryz.prog tabs29:=TabOK.add tabs21OK c29 Tryz.call29

/-! putlog/putlogref25.Ints -/
def as30:List Ty:=[tL,tL]
def rs30:List Ty:=[.bool]
def an30:Ann:=.seq (.a) (.seq (.a) (.seq (.seq (.a) (.block (.loop ⟨[(5,.r (.c (.d (.d tI))))],(ra 11 15 ([])),[],[]⟩ [(.exit 0,⟨[],(5::ra 11 15 ([])),[],[]⟩),(.ret,⟨[(4,.r (.c (.d (.d .bool))))],(5::ra 11 15 ([])),[],[]⟩)] (.seq (.a) (.seq (.block (.seq (.reg [0,0,3,7,0,0,48,112,255] (ra 0 9 ([])) (za 9 ([])) (.a)) (.a))) (.a)))))) (.a)))
def m30:(List Int×List Int)→Option (Bool) :=
 fun x=>bif PE.notM (eqM (lenM x.1) (lenM x.2)) then some false else (loopM (fun (s:Int)=>bif ltM s (lenM x.1) then (idxM x.1 s).bind fun r=>(idxM x.2
 s).bind fun r_1=>bif PE.notM (eqM r r_1) then some (Sum.inr (Sum.inr false)) else some (Sum.inl (wrap .i64 (s+1))) else some (Sum.inr (Sum.inl
 ()))) 0).bind fun o=>Sum.elim (fun (t:Unit)=>some true) (fun (t:Bool)=>some t) o
theorem c30:SpecOK Tryz.prog 30 ⟨as30,rs30,m30⟩ :=
 fc tabs29OK [] an30 Tryz.f30 fun x=>by kernel_rfl
def tabs30:Tabs:=Tabs.add tabs29 30 ⟨as30,rs30,m30⟩
theorem tabs30OK:TabOK Tryz.prog tabs30:=TabOK.add tabs29OK c30 Tryz.call30

/-! putlog/putloglaw25.sane -/
def as9:List Ty:=[]
def rs9:List Ty:=[.bool]
def an9:Ann:=.seq (.a) (.seq (.a) (.seq (.a) (.seq (.a) (.seq (.a) (.seq (.a) (.seq (.a) (.seq (.a) (.seq (.reg [0,0,2,6,14,31,63,127,127,127,0,0,3327,7679,16383] (ra 0 15 ([])) (.s [0] []::za 9 (.s [] [2]::.s [] [3]::.s [2] [2]::.s [3] [3]::z0::[])) (.a)) (.seq (.reg [0,0,2,6,14,31,63,127,127,127,0,0,3327,7679,16383] (ra 0 15 ([])) (.s [0] []::za 9 (.s [] [4]::.s [] [5]::.s [4] [4]::.s [5] [5]::z0::[])) (.a)) (.a))))))))))
def m9:Unit→Option (Bool) :=
 fun x=>(m13 ((1,1,[0,6,12,6],[0,6,12,6]),1,1,2)).bind fun r=>(m13 ((1,1,[0,6,12,6],[0,6,12,6]),1,3,4)).bind fun r_1=>(m13 ((1,1,
 [0,6,12,6],[0,6,12,6]),3,0,2)).bind fun r_2=>(m14 (1,1,[0,6,12,6],[0,6,12,6])).bind fun r_3=>(m16 (0,0)).bind fun r_4=>(m16 (1,
 0)).bind fun r_5=>(m16 (0,1)).bind fun r_6=>(m17 ((1,1,[0,6,12,6],[0,6,12,6]),[(r_4.1,r_4.2),(r_5.1,r_5.2),(r_6.1,r_6.2)])).bind fun r_7
 => (m16 (0,0)).bind fun r_8=>(m16 (2,0)).bind fun r_9=>(m16 (0,1)).bind fun r_10=>(m17 ((1,1,[0,6,12,6],[0,6,12,6]),[(r_8.1,r_8.2),
 (r_9.1,r_9.2),(r_10.1,r_10.2)])).bind fun r_11=>(m18 ((1,1,[0,6,12,6],[0,6,12,6]),3)).bind fun r_12=>(m18 ((1,1,[0,6,12,6],[0,6,12,
 6]),11)).bind fun r_13=>(m11 (1,1,[0,6,12,6],[0,6,12,6])).bind fun r_14=>(m20 ((1,1,[0,6,12,6],[0,6,12,6]),1,1,[0,6,12,6],[0,6,
 12,6])).bind fun r_15=>(m21 ((1,1,[0,6,12,6],[0,6,12,6]),3)).bind fun r_16=>(m21 ((1,1,[0,6,12,6],[0,6,12,6]),9)).bind fun r_17 =>
 (m29 ((1,1,[0,6,12,6],[0,6,12,6]),1,1,[0,6,12,6],[0,7,12,6])).bind fun r_18=>bif PE.orM (PE.orM (PE.orM (PE.orM (PE.orM (PE.orM (PE.orM
 (PE.orM (PE.orM (PE.orM (PE.orM (PE.notM (eqM r.2.2 0)) (PE.notM (eqM r_1.2.2 0))) (PE.notM (eqM r_2.2.2 250))) (PE.notM (eqM r_7.2.2 0))) (PE.notM (eqM
 r_11.2.2 250))) (PE.notM (eqM r_12.2.2 0))) (PE.notM (eqM r_13.2.2 0))) (PE.notM (eqM r_14.2 0))) (PE.notM (eqM r_15.2 0))) (PE.notM (eqM r_16.2 0))) (PE.notM
 (eqM r_17.2 250))) (PE.notM (eqM r_18.2 0)) then some false else (m30 (r_14.1.2.2.1,[0,6,12,12,6,12,24,18,12])).bind fun r_19=>(bif r_19 then m30
 (r_14.1.2.2.2,r_14.1.2.2.1) else some false).bind fun r_20=>(bif PE.andM (PE.andM (PE.andM r_19 r_20) (eqM r_14.1.1 2)) (eqM r_14.1.2.1 2) then m30
 (r_15.1.2.2.2,[0,12,24,12]) else some false).bind fun r_21=>(bif PE.andM (PE.andM (PE.andM (PE.andM r_19 r_20) (eqM r_14.1.1 2)) (eqM r_14.1.2.1 2))
 r_21 then m30 (r_16.1.2.2.1,[0,18,36,18]) else some false).bind fun r_22=>(bif PE.andM (PE.andM (PE.andM (PE.andM (PE.andM (PE.andM (PE.andM (eqM r.1 6)
 (eqM r.2.1 6)) (eqM r_1.1 30)) (eqM r_1.2.1 30)) (eqM r_3.1 30)) (eqM r_3.2 30)) (PE.andM (PE.andM (PE.andM (PE.andM (PE.andM (eqsM r_7.1.1 [(50:UInt8)])
 (eqsM r_7.1.2 [(49:UInt8)])) (PE.andM (eqsM r_7.2.1.1 r_7.1.1) (eqsM r_7.2.1.2 r_7.1.2))) (PE.andM (eqsM r_12.1.1 [(49:UInt8),(51:UInt8)]) (eqsM
 r_12.1.2 [(49:UInt8),(54:UInt8)]))) (PE.andM (eqsM r_13.1.1 [(49:UInt8)]) (eqsM r_13.1.2 [(49:UInt8),(52:UInt8),(52:UInt8)]))) (PE.andM (eqsM
 r_13.2.1.1 r_13.1.1) (eqsM r_13.2.1.2 r_13.1.2)))) (PE.andM (PE.andM (PE.andM (PE.andM (PE.andM r_19 r_20) (eqM r_14.1.1 2)) (eqM r_14.1.2.1 2)) r_21) r_22)
 then m30 (r_18.1,[0,1,0,0]) else some false).bind fun r_23=>(bif PE.andM (PE.andM (PE.andM (PE.andM (PE.andM (PE.andM (PE.andM (PE.andM (eqM r.1 6) (eqM
 r.2.1 6)) (eqM r_1.1 30)) (eqM r_1.2.1 30)) (eqM r_3.1 30)) (eqM r_3.2 30)) (PE.andM (PE.andM (PE.andM (PE.andM (PE.andM (eqsM r_7.1.1 [(50:UInt8)]) (eqsM
 r_7.1.2 [(49:UInt8)])) (PE.andM (eqsM r_7.2.1.1 r_7.1.1) (eqsM r_7.2.1.2 r_7.1.2))) (PE.andM (eqsM r_12.1.1 [(49:UInt8),(51:UInt8)]) (eqsM r_12.1.2
 [(49:UInt8),(54:UInt8)]))) (PE.andM (eqsM r_13.1.1 [(49:UInt8)]) (eqsM r_13.1.2 [(49:UInt8),(52:UInt8),(52:UInt8)]))) (PE.andM (eqsM r_13.2.1.1
 r_13.1.1) (eqsM r_13.2.1.2 r_13.1.2)))) (PE.andM (PE.andM (PE.andM (PE.andM (PE.andM r_19 r_20) (eqM r_14.1.1 2)) (eqM r_14.1.2.1 2)) r_21) r_22)) r_23 then
 m31 (1,1,[0,6,12,6],[0,6,12,6]) else some false).bind fun r_24=>(bif PE.andM (PE.andM (PE.andM (PE.andM (PE.andM (PE.andM (PE.andM (PE.andM
 (PE.andM (eqM r.1 6) (eqM r.2.1 6)) (eqM r_1.1 30)) (eqM r_1.2.1 30)) (eqM r_3.1 30)) (eqM r_3.2 30)) (PE.andM (PE.andM (PE.andM (PE.andM (PE.andM (eqsM
 r_7.1.1 [(50:UInt8)]) (eqsM r_7.1.2 [(49:UInt8)])) (PE.andM (eqsM r_7.2.1.1 r_7.1.1) (eqsM r_7.2.1.2 r_7.1.2))) (PE.andM (eqsM r_12.1.1 [(49:UInt8),(51
 : UInt8)]) (eqsM r_12.1.2 [(49:UInt8),(54:UInt8)]))) (PE.andM (eqsM r_13.1.1 [(49:UInt8)]) (eqsM r_13.1.2 [(49:UInt8),(52:UInt8),(52:UInt8)])))
 (PE.andM (eqsM r_13.2.1.1 r_13.1.1) (eqsM r_13.2.1.2 r_13.1.2)))) (PE.andM (PE.andM (PE.andM (PE.andM (PE.andM r_19 r_20) (eqM r_14.1.1 2)) (eqM r_14.1.2.1
 2)) r_21) r_22)) r_23) r_24 then m31 (0,0,[],[]) else some false).bind fun r_25=>some (PE.andM (PE.andM (PE.andM (PE.andM (PE.andM (PE.andM (PE.andM
 (PE.andM (PE.andM (PE.andM (eqM r.1 6) (eqM r.2.1 6)) (eqM r_1.1 30)) (eqM r_1.2.1 30)) (eqM r_3.1 30)) (eqM r_3.2 30)) (PE.andM (PE.andM (PE.andM (PE.andM
 (PE.andM (eqsM r_7.1.1 [(50:UInt8)]) (eqsM r_7.1.2 [(49:UInt8)])) (PE.andM (eqsM r_7.2.1.1 r_7.1.1) (eqsM r_7.2.1.2 r_7.1.2))) (PE.andM (eqsM r_12.1.1
 [(49:UInt8),(51:UInt8)]) (eqsM r_12.1.2 [(49:UInt8),(54:UInt8)]))) (PE.andM (eqsM r_13.1.1 [(49:UInt8)]) (eqsM r_13.1.2 [(49:UInt8),(52 :
 UInt8),(52:UInt8)]))) (PE.andM (eqsM r_13.2.1.1 r_13.1.1) (eqsM r_13.2.1.2 r_13.1.2)))) (PE.andM (PE.andM (PE.andM (PE.andM (PE.andM r_19 r_20) (eqM
 r_14.1.1 2)) (eqM r_14.1.2.1 2)) r_21) r_22)) r_23) r_24) (PE.notM r_25))
theorem c9:SpecOK Tryz.prog 9 ⟨as9,rs9,m9⟩ :=
 fc tabs30OK [] an9 Tryz.f9 fun x=>by kernel_rfl
def tabs9:Tabs:=Tabs.add tabs30 9 ⟨as9,rs9,m9⟩
theorem tabs9OK:TabOK Tryz.prog tabs9:=TabOK.add tabs30OK c9 Tryz.call9

/-! putlog/putlogref25.pick -/
def as32:List Ty:=[tI,tI]
def rs32:List Ty:=[tI]
def an32:Ann:=.seq (.a) (.seq (.join [(.norm,⟨[(0,.r (.c (.d (.d tI))))],[5,6,7,8,9],[],[]⟩)] (.a)) (.a))
def m32:(Int×Int)→Option (Int) :=
 fun x=>(bif ltM x.1 0 then some (wrap .i64 (negM (wrap .i64 (x.1+1)))) else some x.1).bind fun o=>(remM o x.2).bind fun r=>some r
theorem c32:SpecOK Tryz.prog 32 ⟨as32,rs32,m32⟩ :=
 fc tabs9OK [] an32 Tryz.f32 fun x=>by kernel_rfl
def tabs32:Tabs:=Tabs.add tabs9 32 ⟨as32,rs32,m32⟩
theorem tabs32OK:TabOK Tryz.prog tabs32:=TabOK.add tabs9OK c32 Tryz.call32

/-! putlog/putlogref25.Made -/
def as10:List Ty:=[tI,tI,tI,tI,tQ]
def rs10:List Ty:=[(.pair tI (.pair tI (.pair tL tL)))]
def an10:Ann:=.seq (.a) (.seq (.a) (.seq (.seq (.a) (.block (.loop ⟨[(12,.r (.c (.d (.d tI))))],(13::14::ra 24 51 ([])),[(1,.box [.d (.d tI),.d (.d tI),.h 2,.h 3])],[.arr tI,.arr tI]⟩ [(.exit 0,⟨[],(12::13::14::ra 24 51 ([])),[(1,.box [.d (.d tI),.d (.d tI),.h 2,.h 3])],[.arr tI,.arr tI]⟩)] (.seq (.a) (.seq (.block (.seq (.a) (.seq (.join [(.norm,⟨[],(ra 42 10 ([])),[(4,.box [.d (.d tI),.d (.d tI)])],[]⟩)] (.a)) (.seq (.a) (.seq (.a) (.reg [0,1,0,0,8,24,60,0,252,508,1023,2047,4095] (ra 0 13 ([])) (z0::.s [1] []::z0::z0::.s [4] []::za 5 (.s [3] [6,3]::z0::.s [1,6] [1]::[])) (.a))))))) (.a)))))) (.a)))
def m10:(Int×Int×Int×Int×List (Int×Int))→Option (Int×Int×List Int×List Int) :=
 fun x=>(m32 (x.1,x.2.2.1)).bind fun r=>(m32 (x.2.1,x.2.2.1)).bind fun r_1=>(loopM (fun (s:Int×Int×Int×List Int×List Int)=>bif ltM s.1 (wrap
 IntKind.i64 (wrap .i64 (s.2.1+1)*wrap .i64 (s.2.2.1+1))) then (bif ltM 0 (lenM x.2.2.2.2) then (remM s.1 (lenM x.2.2.2.2)).bind fun r_2 =>
 (idxM x.2.2.2.2 r_2).bind fun r=>some (r.1,r.2) else some (wrap .i64 (wrap .i64 (7*s.1)+wrap .i64 (s.1*s.1)),0)).bind fun o =>
 (m32 (o.1,wrap .i64 (x.2.2.2.1+1))).bind fun r_2=>(appM (nat_lit 8) s.2.2.2.1 [r_2]).bind fun r_3=>(m32 (o.2,30)).bind fun r_4=>(appM
 (nat_lit 8) s.2.2.2.2 [min (wrap .i64 (r_2+r_4)) x.2.2.2.1]).bind fun r=>some (Sum.inl (wrap .i64 (s.1+1),s.2.1,s.2.2.1,r_3,r)) else
 some (Sum.inr (s.2.1,s.2.2.1,s.2.2.2.1,s.2.2.2.2))) (0,wrap .i64 (1+r),wrap .i64 (1+r_1),[],[])).bind fun o=>some (o.1,o.2.1,
 o.2.2.1,o.2.2.2)
theorem c10:SpecOK Tryz.prog 10 ⟨as10,rs10,m10⟩ :=
 fc tabs32OK [] an10 Tryz.f10 fun x=>by kernel_rfl
def tabs10:Tabs:=Tabs.add tabs32 10 ⟨as10,rs10,m10⟩
theorem tabs10OK:TabOK Tryz.prog tabs10:=TabOK.add tabs32OK c10 Tryz.call10

/-! putlog/putloglaw25.pick -/
def as12:List Ty:=[tI,tI]
def rs12:List Ty:=[tI]
def an12:Ann:=.seq (.a) (.seq (.join [(.norm,⟨[(0,.r (.c (.d (.d tI))))],[5,6,7,8,9],[],[]⟩)] (.a)) (.a))
def m12:(Int×Int)→Option (Int) :=
 fun x=>(bif ltM x.1 0 then some (wrap .i64 (negM (wrap .i64 (x.1+1)))) else some x.1).bind fun o=>(remM o x.2).bind fun r=>some r
theorem c12:SpecOK Tryz.prog 12 ⟨as12,rs12,m12⟩ :=
 fc tabs10OK [] an12 Tryz.f12 fun x=>by kernel_rfl
def tabs12:Tabs:=Tabs.add tabs10 12 ⟨as12,rs12,m12⟩
theorem tabs12OK:TabOK Tryz.prog tabs12:=TabOK.add tabs10OK c12 Tryz.call12
end
end Go.Proofs.YtechphmljdgoaaaGreatDoor
namespace Go.Proofs.YtechphmljdgoaaaGreatDoor
open Go Go.Abs Go.PE Go.Proofs
open Go.IntKind (wrap)
set_option maxRecDepth 100000
noncomputable section

/-! putlog/putlogref07.Turn -/
def as68:List Ty:=[tP,tP,tP]
def rs68:List Ty:=[tI]
def an68:Ann:=.a
def m68:((Int×Int)×(Int×Int)×Int×Int)→Option (Int) :=
 fun x=>some (wrap .i64 (wrap .i64 (wrap .i64 (x.2.1.1-x.1.1)*wrap .i64 (x.2.2.2-x.1.2))-wrap .i64 (wrap IntKind.i64
 (x.2.1.2-x.1.2)*wrap .i64 (x.2.2.1-x.1.1))))
theorem c68:SpecOK Tryz.prog 68 ⟨as68,rs68,m68⟩ :=
 fc tabs12OK [] an68 Tryz.f68 fun x=>by kernel_rfl
def tabs68:Tabs:=Tabs.add tabs12 68 ⟨as68,rs68,m68⟩
theorem tabs68OK:TabOK Tryz.prog tabs68:=TabOK.add tabs12OK c68 Tryz.call68

/-! putlog/putlogref07.far -/
def as69:List Ty:=[tP,tP]
def rs69:List Ty:=[tI]
def an69:Ann:=.a
def m69:((Int×Int)×Int×Int)→Option (Int) :=
 fun x=>some (wrap .i64 (wrap .i64 (wrap .i64 (x.1.1-x.2.1)*wrap .i64 (x.1.1-x.2.1))+wrap .i64 (wrap IntKind.i64
 (x.1.2-x.2.2)*wrap .i64 (x.1.2-x.2.2))))
theorem c69:SpecOK Tryz.prog 69 ⟨as69,rs69,m69⟩ :=
 fc tabs68OK [] an69 Tryz.f69 fun x=>by kernel_rfl
def tabs69:Tabs:=Tabs.add tabs68 69 ⟨as69,rs69,m69⟩
theorem tabs69OK:TabOK Tryz.prog tabs69:=TabOK.add tabs68OK c69 Tryz.call69

/-! putlog/putlogref07.Hull -/
def as41:List Ty:=[tQ]
def rs41:List Ty:=[tQ]
def an41:Ann:=.seq (.a) (.seq (.a) (.seq (.seq (.a) (.block (.loop ⟨[(4,.r (.c (.d (.d tI))))],(ra 13 38 ([])),[(0,.box [.d (.d tI),.d (.d tI)])],[]⟩ [(.exit 0,⟨[],(4::ra 13 38 ([])),[(0,.box [.d (.d tI),.d (.d tI)])],[]⟩)] (.seq (.a) (.seq (.join [(.norm,⟨[],(ra 19 32 ([])),[(0,.box [.d (.d tI),.d (.d tI)])],[]⟩)] (.block (.seq (.reg [0,0,3,7,15,0,32,127,255,511,511,2047,4095,8191,511,16895,65535,131071,262143,262143,1048575,2097151,4194303,262143,8650751,33554431,67108863,134217727] (ra 0 28 ([])) (za 6 (.s [0] []::za 8 (.s [0] []::za 8 (.s [0] []::za 3 ([]))))) (.a)) (.a)))) (.a)))))) (.seq (.a) (.seq (.a) (.block (.loop ⟨[(5,.r (.c (.h 3))),(6,.r (.c (.p 4 0)))],(7::8::9::ra 54 55 (ra 110 6 ([]))),[(1,.gone),(2,.gone)],[.arr tP,.box [.d (.d tI),.d (.d tI)]]⟩ [(.ret,⟨[(2,.r (.c (.h 3)))],(5::6::7::8::9::ra 54 62 ([])),[(1,.gone),(2,.gone)],[.arr tP]⟩)] (.seq (.block (.seq (.a) (.seq (.seq (.a) (.block (.loop ⟨[(8,.r (.c (.d (.d tI))))],(9::ra 55 46 ([])),[(5,.box [.d (.d tI),.d (.d tI)])],[]⟩ [(.exit 4,⟨[],(8::9::ra 55 46 ([])),[(5,.box [.d (.d tI),.d (.d tI)])],[]⟩)] (.seq (.a) (.seq (.join [(.norm,⟨[],(9::ra 61 40 ([])),[(5,.box [.d (.d tI),.d (.d tI)])],[]⟩)] (.block (.seq (.seq (.reg [0,0,3,7,0,31] (ra 0 6 ([])) (za 4 (.s [4] []::z0::[])) (.a)) (.a)) (.seq (.reg [0,0,0,0,12,28,63,127] (ra 0 8 ([])) (.s [4] []::.s [5] []::za 6 ([])) (.a)) (.seq (.reg [0,0,3,7,15,31,63,127,255,511,1023,2047,2047,2047,14335,30719,65535,2047,2047,524287,1048575,2097151,4194303] (ra 0 23 ([])) (.s [5] []::.s [4] []::za 9 (.s [4] []::za 5 (.s [4] []::.s [5] []::za 4 ([])))) (.a)) (.a)))))) (.a)))))) (.a)))) (.a))))))))
def m41:(List (Int×Int))→Option (List (Int×Int)) :=
 fun x=>(idxM x 0).bind fun r=>(loopM (fun (s:Int×Int×Int)=>bif ltM s.1 (lenM x) then ((idxM x s.1).bind fun r_1=>(bif PE.notM (ltM r_1.2 s.2.2)
 then idxM x s.1 else some (0,0)).bind fun r_2=>(bif PE.andM (PE.notM (ltM r_1.2 s.2.2)) (eqM r_2.2 s.2.2) then idxM x s.1 else some (0,0)).bind fun r_3 =>
 bif PE.orM (ltM r_1.2 s.2.2) (PE.andM (eqM r_2.2 s.2.2) (ltM r_3.1 s.2.1)) then (idxM x s.1).bind fun r=>some (r.1,r.2) else some (s.2.1,s.2.2)).bind fun
 o=>some (Sum.inl (wrap .i64 (s.1+1),o.1,o.2)) else some (Sum.inr (s.2.1,s.2.2))) (0,r.1,r.2)).bind fun o=>(loopM (fun (s:List (Int×Int)
 × Int×Int)=>(loopM (fun (s_1:Int×Int×Int)=>bif ltM s_1.1 (lenM x) then ((idxM x s_1.1).bind fun r_1=>bif PE.andM (eqM r_1.1 s.2.1) (eqM r_1.2
 s.2.2) then some (s_1.2.1,s_1.2.2) else (idxM x s_1.1).bind fun r_2=>(m68 ((s.2.1,s.2.2),(s_1.2.1,s_1.2.2),r_2.1,r_2.2)).bind fun r_3=>(bif PE.andM
 (PE.notM (PE.orM (PE.andM (eqM s_1.2.1 s.2.1) (eqM s_1.2.2 s.2.2)) (ltM r_3 0))) (eqM r_3 0) then idxM x s_1.1 else some (0,0)).bind fun r_4=>(bif PE.andM
 (PE.notM (PE.orM (PE.andM (eqM s_1.2.1 s.2.1) (eqM s_1.2.2 s.2.2)) (ltM r_3 0))) (eqM r_3 0) then m69 ((s.2.1,s.2.2),r_4.1,r_4.2) else some 0).bind fun r_5
 => (bif PE.andM (PE.notM (PE.orM (PE.andM (eqM s_1.2.1 s.2.1) (eqM s_1.2.2 s.2.2)) (ltM r_3 0))) (eqM r_3 0) then m69 ((s.2.1,s.2.2),s_1.2.1,s_1.2.2) else
 some 0).bind fun r_6=>bif PE.orM (PE.orM (PE.andM (eqM s_1.2.1 s.2.1) (eqM s_1.2.2 s.2.2)) (ltM r_3 0)) (PE.andM (eqM r_3 0) (ltM r_6 r_5)) then (idxM x
 s_1.1).bind fun r=>some (r.1,r.2) else some (s_1.2.1,s_1.2.2)).bind fun o=>some (Sum.inl (wrap .i64 (s_1.1+1),o.1,o.2)) else some (Sum.inr
 (s_1.2.1,s_1.2.2))) (0,s.2.1,s.2.2)).bind fun o_1=>bif PE.orM (PE.andM (eqM o_1.1 s.2.1) (eqM o_1.2 s.2.2)) (PE.andM (eqM o_1.1 o.1) (eqM o_1.2 o.2))
 then some (Sum.inr s.1) else (appM (nat_lit 16) s.1 [(o_1.1,o_1.2)]).bind fun r=>some (Sum.inl (r,o_1.1,o_1.2))) ([(o.1,o.2)],o.1,o.2)).bind fun o =>
 some o
theorem c41:SpecOK Tryz.prog 41 ⟨as41,rs41,m41⟩ :=
 fc tabs69OK [52,112] an41 Tryz.f41 fun x=>by kernel_rfl
def tabs41:Tabs:=Tabs.add tabs69 41 ⟨as41,rs41,m41⟩
theorem tabs41OK:TabOK Tryz.prog tabs41:=TabOK.add tabs69OK c41 Tryz.call41

/-! putlog/putlogref25.Part -/
def as15:List Ty:=[(.pair tI (.pair tI (.pair tL tL))),tQ]
def rs15:List Ty:=[tQ]
def an15:Ann:=.seq (.a) (.seq (.a) (.seq (.a) (.seq (.seq (.a) (.block (.loop ⟨[(6,.r (.c (.h 1))),(7,.r (.c (.d (.d tI))))],(ra 22 32 ([])),[],[.arr tP]⟩ [(.exit 0,⟨[(6,.r (.c (.h 1)))],(7::ra 22 32 ([])),[],[.arr tP]⟩)] (.seq (.a) (.seq (.block (.reg [0,0,0,6,14,30,0,64,192,510,0,0,3072,7168,15360,0,32768,98304,262142,524286,1048574,2097151,4194303] (ra 0 23 ([])) (za 7 (.s [0] []::za 8 (.s [0] []::za 4 (.s [1] [2,1]::z0::[])))) (.a))) (.a)))))) (.a))))
def m15:((Int×Int×List Int×List Int)×List (Int×Int))→Option (List (Int×Int)) :=
 fun x=>(loopM (fun (s:Int×List (Int×Int))=>bif PE.andM (ltM s.1 (lenM x.2)) (ltM s.1 8) then (idxM x.2 s.1).bind fun r=>(m32 (r.1,wrap IntKind.i64
 (x.1.1+1))).bind fun r_1=>(idxM x.2 s.1).bind fun r_2=>(m32 (r_2.2,wrap .i64 (x.1.2.1+1))).bind fun r_3=>(appM (nat_lit 16) s.2 [(r_1,
 r_3)]).bind fun r=>some (Sum.inl (wrap .i64 (s.1+1),r)) else some (Sum.inr s.2)) (0,[])).bind fun o=>bif eqM (lenM o) 0 then some [(0,0),
 (x.1.1,0),(x.1.1,x.1.2.1),(0,x.1.2.1)] else (m41 o).bind fun r=>bif leM 3 (lenM r) then some r else some [(0,0),(x.1.1,0),(x.1.1,x.1.2.1),(0,
 x.1.2.1)]
theorem c15:SpecOK Tryz.prog 15 ⟨as15,rs15,m15⟩ :=
 fc tabs41OK [] an15 Tryz.f15 fun x=>by kernel_rfl
def tabs15:Tabs:=Tabs.add tabs41 15 ⟨as15,rs15,m15⟩
theorem tabs15OK:TabOK Tryz.prog tabs15:=TabOK.add tabs41OK c15 Tryz.call15

/-! putlog/putloglaw25.sum -/
def as22:List Ty:=[(.pair .str .str),(.pair .str .str)]
def rs22:List Ty:=[(.pair .str .str)]
def an22:Ann:=.a
def m22:((List UInt8×List UInt8)×List UInt8×List UInt8)→Option (List UInt8×List UInt8) :=
 fun x=>(m49 ((x.1.1,x.1.2),x.2.1,x.2.2)).bind fun r=>some (r.1.1,r.1.2)
theorem c22:SpecOK Tryz.prog 22 ⟨as22,rs22,m22⟩ :=
 fc tabs15OK [] an22 Tryz.f22 fun x=>by kernel_rfl
def tabs22:Tabs:=Tabs.add tabs15 22 ⟨as22,rs22,m22⟩
theorem tabs22OK:TabOK Tryz.prog tabs22:=TabOK.add tabs15OK c22 Tryz.call22

/-! slices.Clone[[]putlog/api.Place,putlog/api.Place] -/
def as61:List Ty:=[tQ]
def rs61:List Ty:=[tQ]
def an61:Ann:=.a
def m61:(List (Int×Int))→Option (List (Int×Int)) :=
 fun x=>nilM x (some []) ((appM (nat_lit 16) [] x).bind fun r=>some r)
theorem c61:SpecOK Tryz.prog 61 ⟨as61,rs61,m61⟩ :=
 fc tabs22OK [] an61 Tryz.f61 fun x=>by kernel_rfl
def tabs61:Tabs:=Tabs.add tabs22 61 ⟨as61,rs61,m61⟩
theorem tabs61OK:TabOK Tryz.prog tabs61:=TabOK.add tabs22OK c61 Tryz.call61

/-! slices.Concat[[]putlog/api.Place,putlog/api.Place] -/
def as62:List Ty:=[(.list tQ)]
def rs62:List Ty:=[tQ]
def an62:Ann:=.seq (.a) (.seq (.a) (.seq (.seq (.a) (.block (.loop ⟨[(3,.r (.c (.d (.d tI)))),(11,.r (.c (.d (.d tI))))],(5::ra 12 9 (22::[])),[],[]⟩ [(.exit 0,⟨[(3,.r (.c (.d (.d tI))))],(5::ra 11 10 (22::[])),[],[]⟩)] (.a)))) (.seq (.a) (.seq (.seq (.a) (.block (.loop ⟨[(6,.r (.c (.h 1))),(27,.r (.c (.d (.d tI))))],(8::ra 28 7 ([])),[(0,.gone)],[.arr tP]⟩ [(.exit 2,⟨[(6,.r (.c (.h 1)))],(8::ra 27 8 ([])),[(0,.gone)],[.arr tP]⟩)] (.a)))) (.a)))))
def m62:(List (List (Int×Int)))→Option (List (Int×Int)) :=
 fun x=>(loopM (fun (s:Int×Int)=>bif ltM s.2 (lenM x) then (idxM x s.2).bind fun r=>bif ltM (wrap .i64 (s.1+lenM r)) 0 then none else some
 (Sum.inl (wrap .i64 (s.1+lenM r),wrap .i64 (s.2+1))) else some (Sum.inr s.1)) (0,0)).bind fun o=>(growM o (0,0)).bind fun r=>(loopM
 (fun (s:Int×List (Int×Int))=>bif ltM s.1 (lenM x) then (idxM x s.1).bind fun r_1=>(appM (nat_lit 16) s.2 r_1).bind fun r=>some (Sum.inl (wrap
 IntKind.i64 (s.1+1),r)) else some (Sum.inr s.2)) (0,r)).bind fun o=>some o
theorem c62:SpecOK Tryz.prog 62 ⟨as62,rs62,m62⟩ :=
 fc tabs61OK [] an62 Tryz.f62 fun x=>by kernel_rfl
def tabs62:Tabs:=Tabs.add tabs61 62 ⟨as62,rs62,m62⟩
theorem tabs62OK:TabOK Tryz.prog tabs62:=TabOK.add tabs61OK c62 Tryz.call62

/-! putlog/plane.Cut -/
def as26:List Ty:=[tQ,tI,tI]
def rs26:List Ty:=[tQ,tQ,tI]
def an26:Ann:=.seq (.a) (.seq (.a) (.seq (.a) (.seq (.reg [] [] [z0,z0,z0,.r,z0,z0,z0,.r,z0,z0] (.call [] [(.norm,⟨[(33,.r (.c (.d (.d tQ))))],[],[],[]⟩)] (.seq (.a) (.seq (.a) (.seq (.reg [0,0,3,0,0,16,56,127,255,511] (ra 0 10 ([])) (.s [0] []::z0::z0::.s [0] []::za 6 ([])) (.a)) (.a)))) (.call [] [(.norm,⟨[(37,.r (.c (.d (.d tQ))))],[],[],[]⟩)] (.seq (.a) (.seq (.a) (.seq (.reg [0,0,3,0,0,16,56,127,255,511] (ra 0 10 ([])) (.s [0] []::z0::z0::.s [0] []::za 6 ([])) (.a)) (.a)))) (.a)))) (.a))))
def m26:((List (Int×Int))×Int×Int)→Option ((List (Int×Int))×(List (Int×Int))×Int) :=
 fun x=>(m28 x.1).bind fun r=>bif PE.orM (PE.orM (PE.notM r) (ltM (min x.2.1 x.2.2) 0)) (leM (lenM x.1) (max x.2.1 x.2.2)) then some ([],[],70) else (bif
 leM x.2.1 x.2.2 then (sliceM x.1 x.2.1 (wrap .i64 (x.2.2+1))).bind fun r_1=>(m61 r_1).bind fun r=>some r else (sliceM x.1 x.2.1 (lenM x.1)).bind
 fun r_1=>(sliceM x.1 0 (wrap .i64 (x.2.2+1))).bind fun r_2=>(m62 [r_1,r_2]).bind fun r=>some r).bind fun (ov:List (Int×Int))=>(bif leM
 x.2.2 x.2.1 then (sliceM x.1 x.2.2 (wrap .i64 (x.2.1+1))).bind fun r_1=>(m61 r_1).bind fun r=>some r else (sliceM x.1 x.2.2 (lenM x.1)).bind fun
 r_1=>(sliceM x.1 0 (wrap .i64 (x.2.1+1))).bind fun r_2=>(m62 [r_1,r_2]).bind fun r=>some r).bind fun (ov_1:List (Int×Int))=>bif ltM (min
 (lenM ov) (lenM ov_1)) 3 then some ([],[],70) else some (ov,ov_1,0)
theorem c26:SpecOK Tryz.prog 26 ⟨as26,rs26,m26⟩ :=
 fc tabs62OK [] an26 Tryz.f26 fun x=>by kernel_rfl
def tabs26:Tabs:=Tabs.add tabs62 26 ⟨as26,rs26,m26⟩
theorem tabs26OK:TabOK Tryz.prog tabs26:=TabOK.add tabs62OK c26 Tryz.call26

/-! putlog/putloglaw25.FieldCuts -/
def as7:List Ty:=[(.pair tI tB),tQ,tQ,tI,tI]
def rs7:List Ty:=[.bool]
def an7:Ann:=.seq (.a) (.seq (.a) (.seq (.a) (.seq (.a) (.seq (.reg [0,0,2,7,0,16,0,64,255,0,512,2047,4095,8191] (ra 0 14 ([])) (z0::z0::.s [1] []::z0::z0::.s [1] []::z0::.s [1] []::z0::z0::.s [1] []::za 3 ([])) (.a)) (.seq (.a) (.seq (.a) (.seq (.a) (.seq (.a) (.seq (.a) (.seq (.a) (.seq (.a) (.seq (.a) (.seq (.a) (.seq (.a) (.seq (.a) (.seq (.a) (.seq (.a) (.seq (.reg [0,1,3,7,15,31,63,127,255,511,1023,2047,2047,2047,14335,32767,65535,131071,262143,262143,262143,1835007,4194303,8388607,16777215] (ra 0 25 ([])) (za 11 (.s [2] []::.s [4] []::.s [6] []::za 4 (.s [3] []::.s [5] []::.s [7] []::za 4 ([])))) (.a)) (.a)))))))))))))))))))
def m7:((Int×Int×Int×Int)×(List (Int×Int))×(List (Int×Int))×Int×Int)→Option (Bool) :=
 fun x=>(m9 ()).bind fun r=>bif PE.notM r then some false else (m10 (x.1.1,x.1.2.1,6,100,x.2.1)).bind fun r_1=>(m16 (0,0)).bind fun r_2=>(m16
 (r_1.1,0)).bind fun r_3=>(m16 (r_1.1,r_1.2.1)).bind fun r_4=>(m16 (0,r_1.2.1)).bind fun r_5=>(m14 (r_1.1,r_1.2.1,r_1.2.2.1,r_1.2.2.2)).bind fun
 r_6=>(m17 ((r_1.1,r_1.2.1,r_1.2.2.1,r_1.2.2.2),[(r_2.1,r_2.2),(r_3.1,r_3.2),(r_4.1,r_4.2),(r_5.1,r_5.2)])).bind fun r_7=>(m25 (r_6.1,6)).bind
 fun r_8=>(m25 (r_6.2,6)).bind fun r_9=>bif PE.orM (PE.orM (PE.notM (eqM r_7.2.2 0)) (PE.notM (PE.andM (eqsM r_7.1.1 r_8.1.1) (eqsM r_7.1.2 r_8.1.2))))
 (PE.notM (PE.andM (eqsM r_7.2.1.1 r_9.1.1) (eqsM r_7.2.1.2 r_9.1.2))) then some false else (m15 ((r_1.1,r_1.2.1,r_1.2.2.1,r_1.2.2.2),x.2.2.1)).bind fun
 r_10=>(m12 (x.2.2.2.1,lenM r_10)).bind fun r_11=>(m12 (x.2.2.2.2,max (wrap .i64 (lenM r_10-3)) 1)).bind fun r_12=>(remM (wrap IntKind.i64
 (wrap .i64 (r_11+2)+r_12)) (lenM r_10)).bind fun r_13=>(m26 (r_10,r_11,r_13)).bind fun r_14=>bif PE.notM (eqM r_14.2.2 0) then some (eqM
 (lenM r_10) 3) else (m17 ((r_1.1,r_1.2.1,r_1.2.2.1,r_1.2.2.2),r_10)).bind fun r_15=>(m17 ((r_1.1,r_1.2.1,r_1.2.2.1,r_1.2.2.2),r_14.1)).bind fun r_16
 => (m17 ((r_1.1,r_1.2.1,r_1.2.2.1,r_1.2.2.2),r_14.2.1)).bind fun r_17=>(bif PE.andM (PE.andM (eqM r_15.2.2 0) (eqM r_16.2.2 0)) (eqM r_17.2.2 0) then
 m22 ((r_16.1.1,r_16.1.2),r_17.1.1,r_17.1.2) else some ([],[])).bind fun r_18=>(bif PE.andM (PE.andM (PE.andM (eqM r_15.2.2 0) (eqM r_16.2.2 0)) (eqM
 r_17.2.2 0)) (PE.andM (eqsM r_15.1.1 r_18.1) (eqsM r_15.1.2 r_18.2)) then m22 ((r_16.2.1.1,r_16.2.1.2),r_17.2.1.1,r_17.2.1.2) else some ([],[])).bind fun
 r=>some (PE.andM (PE.andM (PE.andM (PE.andM (eqM r_15.2.2 0) (eqM r_16.2.2 0)) (eqM r_17.2.2 0)) (PE.andM (eqsM r_15.1.1 r_18.1) (eqsM r_15.1.2 r_18.2)))
 (PE.andM (eqsM r_15.2.1.1 r.1) (eqsM r_15.2.1.2 r.2)))
theorem c7:SpecOK Tryz.prog 7 ⟨as7,rs7,m7⟩ :=
 fc tabs26OK [] an7 Tryz.f7 fun x=>by kernel_rfl
def tabs7:Tabs:=Tabs.add tabs26 7 ⟨as7,rs7,m7⟩
theorem tabs7OK:TabOK Tryz.prog tabs7:=TabOK.add tabs26OK c7 Tryz.call7
end
end Go.Proofs.YtechphmljdgoaaaGreatDoor

namespace Go.PE
def Le {α:Type} (a b:Option α):Prop:=∀ r,a=some r→b=some r
theorem Le.refl {α:Type} (a:Option α):Le a a:=fun _ h=>h
theorem Le.bind {α β:Type} {a a':Option α} {f f':α→Option β} (h:Le a a') (hf:∀ x,Le (f x) (f' x)):Le (Option.bind a f) (Option.bind a' f'):=by
 intro r hr
 cases a with
 | none=>cases hr
 | some x =>
  rw [h x rfl]
  exact hf x r hr
theorem Le.cond {α:Type} {c:Bool} {a a' b b':Option α} (h:Le a a') (h':Le b b'):Le (cond c a b) (cond c a' b'):=by
 cases c
 ·exact h'
 ·exact h
theorem Le.elim {α β γ:Type} {f f':α→Option γ} {g g':β→Option γ} (hf:∀ x,Le (f x) (f' x)) (hg:∀ x,Le (g x) (g' x)) (x:α⊕β):Le (Sum.elim f g x) (Sum.elim f' g' x):=by
 cases x with
 | inl a=>exact hf a
 | inr b=>exact hg b
theorem Le.iter {σ β:Type} {body body':σ→Option (σ⊕β)} (h:∀ s,Le (body s) (body' s)):∀ (n:Nat) (s:σ),Le (iterM body n s) (iterM body' n s)
 | 0,_=>Le.refl _
 | n+1,s=>by
  unfold iterM
  exact Le.bind (h s) fun x=>Le.elim (Le.iter h n) (fun _=>Le.refl _) x
def loopF {σ β:Type} (body:σ→Option (σ⊕β)) (s:σ):Option β:=iterM body 4096 s
theorem Le.loop {σ β:Type} {body body':σ→Option (σ⊕β)} (h:∀ s,Le (body s) (body' s)) (s:σ):Le (loopF body s) (loopM body' s) :=
 fun r hr=>loopM_iff.2 ⟨4096,Le.iter h 4096 s r hr⟩
def nilF {α β:Type} (xs:List α) (a b:Option β):Option β:=match xs with
 | []=>none
 | _::_=>b
theorem Le.nil {α β:Type} {xs:List α} {a a' b b':Option β} (h:Le b b'):Le (nilF xs a b) (nilM xs a' b'):=by
 cases xs with
 | nil=>intro r hr;cases hr
 | cons x xs=>exact h
theorem Le.out {α:Type} {a b:Option α} (h:Le a b) {r:α} (e:a=some r):b=some r:=h r e
attribute [irreducible] Le
end Go.PE
namespace Go.Proofs.YtechphmljdgoaaaGreatDoor
open Go Go.Abs Go.PE Go.Proofs
open Go.IntKind (wrap)
set_option maxRecDepth 100000
set_option maxHeartbeats 0
noncomputable section
def m31F:(Int×Int×List Int×List Int)→Option (Bool) :=
 fun x=>(m36 (x.1,1,6)).bind fun r=>(bif PE.notM (PE.notM r) then m36 (x.2.1,1,6) else some false).bind fun r_1=>bif PE.orM (PE.orM (PE.orM (PE.notM r)
 (PE.notM r_1)) (PE.notM (eqM (lenM x.2.2.1) (wrap .i64 (wrap .i64 (x.1+1)*wrap .i64 (x.2.1+1)))))) (PE.notM (eqM (lenM x.2.2.2)
 (lenM x.2.2.1))) then some false else (loopF (fun (s:Int)=>bif ltM s (lenM x.2.2.1) then (idxM x.2.2.1 s).bind fun r_2=>(idxM x.2.2.2 s).bind fun r_3 =>
 (m36 (r_2,0,r_3)).bind fun r_4=>(bif PE.notM (PE.notM r_4) then idxM x.2.2.2 s else some 0).bind fun r=>bif PE.orM (PE.notM r_4) (ltM 100 r) then some
 (Sum.inr (Sum.inr false)) else some (Sum.inl (wrap .i64 (s+1))) else some (Sum.inr (Sum.inl ()))) 0).bind fun o=>Sum.elim (fun (t:Unit)=>some
 true) (fun (t:Bool)=>some t) o
theorem le31 (x):Le (m31F x) (m31 x):=by
 unfold m31F m31
 repeat' first | with_reducible exact Le.refl _ | intro _ | apply Le.bind | apply Le.cond | apply Le.nil | apply Le.loop | apply Le.elim
def m13F:((Int×Int×List Int×List Int)×Int×Int×Int)→Option (Int×Int×Int) :=
 fun x=>(m31F (x.1.1,x.1.2.1,x.1.2.2.1,x.1.2.2.2)).bind fun r=>(bif PE.notM (PE.notM r) then m36 (x.2.2.2,1,60) else some false).bind fun r_1=>(bif
 PE.notM (PE.orM (PE.notM r) (PE.notM r_1)) then m36 (x.2.1,0,wrap .i64 (x.1.1*x.2.2.2)) else some false).bind fun r_2=>(bif PE.notM (PE.orM
 (PE.orM (PE.notM r) (PE.notM r_1)) (PE.notM r_2)) then m36 (x.2.2.1,0,wrap .i64 (x.1.2.1*x.2.2.2)) else some false).bind fun r_3=>bif PE.orM
 (PE.orM (PE.orM (PE.notM r) (PE.notM r_1)) (PE.notM r_2)) (PE.notM r_3) then some (0,0,250) else (divM .i64 x.2.1 x.2.2.2).bind fun r_4=>(divM
 IntKind.i64 x.2.2.1 x.2.2.2).bind fun r_5=>((idxM x.1.2.2.1 (wrap .i64 (wrap .i64 (wrap .i64 (min r_5 (wrap .i64 (x.1.2.1-1))
 + 1)*wrap .i64 (x.1.1+1))+wrap .i64 (min r_4 (wrap .i64 (x.1.1-1))+1)))).bind fun r_6=>bif leM (wrap .i64 (x.2.2.1 -
 wrap .i64 (min r_5 (wrap .i64 (x.1.2.1-1))*x.2.2.2))) (wrap .i64 (x.2.1-wrap .i64 (min r_4 (wrap .i64 (x.1.1-1)) *
 x.2.2.2))) then ((idxM x.1.2.2.1 (wrap .i64 (wrap .i64 (min r_5 (wrap .i64 (x.1.2.1-1))*wrap .i64 (x.1.1+1))+min r_4 (wrap
 IntKind.i64 (x.1.1-1))))).bind fun r=>some r).bind fun (ov:Int)=>((idxM x.1.2.2.1 (wrap .i64 (wrap .i64 (min r_5 (wrap IntKind.i64
 (x.1.2.1-1))*wrap .i64 (x.1.1+1))+wrap .i64 (min r_4 (wrap .i64 (x.1.1-1))+1)))).bind fun r=>some r).bind fun (ov_1:Int)
 => some (wrap .i64 (wrap .i64 (wrap .i64 (wrap .i64 (x.2.2.2-wrap .i64 (x.2.1-wrap .i64 (min r_4 (wrap
 IntKind.i64 (x.1.1-1))*x.2.2.2)))*ov)+wrap .i64 (wrap .i64 (wrap .i64 (x.2.1-wrap .i64 (min r_4 (wrap .i64 (x.1.1
 - 1))*x.2.2.2))-wrap .i64 (x.2.2.1-wrap .i64 (min r_5 (wrap .i64 (x.1.2.1-1))*x.2.2.2)))*ov_1))+wrap .i64 (wrap
 IntKind.i64 (x.2.2.1-wrap .i64 (min r_5 (wrap .i64 (x.1.2.1-1))*x.2.2.2))*r_6))) else ((idxM x.1.2.2.1 (wrap .i64 (wrap
 IntKind.i64 (min r_5 (wrap .i64 (x.1.2.1-1))*wrap .i64 (x.1.1+1))+min r_4 (wrap .i64 (x.1.1-1))))).bind fun r=>some r).bind
 fun (ov:Int)=>((idxM x.1.2.2.1 (wrap .i64 (wrap .i64 (wrap .i64 (min r_5 (wrap .i64 (x.1.2.1-1))+1)*wrap IntKind.i64
 (x.1.1+1))+min r_4 (wrap .i64 (x.1.1-1))))).bind fun r=>some r).bind fun (ov_1:Int)=>some (wrap .i64 (wrap .i64 (wrap
 IntKind.i64 (wrap .i64 (x.2.2.2-wrap .i64 (x.2.2.1-wrap .i64 (min r_5 (wrap .i64 (x.1.2.1-1))*x.2.2.2)))*ov)+wrap
 IntKind.i64 (wrap .i64 (wrap .i64 (x.2.2.1-wrap .i64 (min r_5 (wrap .i64 (x.1.2.1-1))*x.2.2.2))-wrap .i64 (x.2.1 -
 wrap .i64 (min r_4 (wrap .i64 (x.1.1-1))*x.2.2.2)))*ov_1))+wrap .i64 (wrap .i64 (x.2.1-wrap .i64 (min r_4 (wrap
 IntKind.i64 (x.1.1-1))*x.2.2.2))*r_6)))).bind fun (ov:Int)=>((idxM x.1.2.2.2 (wrap .i64 (wrap .i64 (wrap .i64 (min r_5 (wrap
 IntKind.i64 (x.1.2.1-1))+1)*wrap .i64 (x.1.1+1))+wrap .i64 (min r_4 (wrap .i64 (x.1.1-1))+1)))).bind fun r_6=>bif leM
 (wrap .i64 (x.2.2.1-wrap .i64 (min r_5 (wrap .i64 (x.1.2.1-1))*x.2.2.2))) (wrap .i64 (x.2.1-wrap .i64 (min r_4
 (wrap .i64 (x.1.1-1))*x.2.2.2))) then ((idxM x.1.2.2.2 (wrap .i64 (wrap .i64 (min r_5 (wrap .i64 (x.1.2.1-1))*wrap
 IntKind.i64 (x.1.1+1))+min r_4 (wrap .i64 (x.1.1-1))))).bind fun r=>some r).bind fun (ov_1:Int)=>((idxM x.1.2.2.2 (wrap .i64 (wrap
 IntKind.i64 (min r_5 (wrap .i64 (x.1.2.1-1))*wrap .i64 (x.1.1+1))+wrap .i64 (min r_4 (wrap .i64 (x.1.1-1))+1)))).bind
 fun r=>some r).bind fun (ov:Int)=>some (wrap .i64 (wrap .i64 (wrap .i64 (wrap .i64 (x.2.2.2-wrap .i64 (x.2.1-wrap
 IntKind.i64 (min r_4 (wrap .i64 (x.1.1-1))*x.2.2.2)))*ov_1)+wrap .i64 (wrap .i64 (wrap .i64 (x.2.1-wrap .i64 (min
 r_4 (wrap .i64 (x.1.1-1))*x.2.2.2))-wrap .i64 (x.2.2.1-wrap .i64 (min r_5 (wrap .i64 (x.1.2.1-1))*x.2.2.2)))*ov)) +
 wrap .i64 (wrap .i64 (x.2.2.1-wrap .i64 (min r_5 (wrap .i64 (x.1.2.1-1))*x.2.2.2))*r_6))) else ((idxM x.1.2.2.2 (wrap
 IntKind.i64 (wrap .i64 (min r_5 (wrap .i64 (x.1.2.1-1))*wrap .i64 (x.1.1+1))+min r_4 (wrap .i64 (x.1.1-1))))).bind fun r
 => some r).bind fun (ov_1:Int)=>((idxM x.1.2.2.2 (wrap .i64 (wrap .i64 (wrap .i64 (min r_5 (wrap .i64 (x.1.2.1-1))+1) *
 wrap .i64 (x.1.1+1))+min r_4 (wrap .i64 (x.1.1-1))))).bind fun r=>some r).bind fun (ov:Int)=>some (wrap .i64 (wrap
 IntKind.i64 (wrap .i64 (wrap .i64 (x.2.2.2-wrap .i64 (x.2.2.1-wrap .i64 (min r_5 (wrap .i64 (x.1.2.1-1))*x.2.2.2)))
 * ov_1)+wrap .i64 (wrap .i64 (wrap .i64 (x.2.2.1-wrap .i64 (min r_5 (wrap .i64 (x.1.2.1-1))*x.2.2.2))-wrap
 IntKind.i64 (x.2.1-wrap .i64 (min r_4 (wrap .i64 (x.1.1-1))*x.2.2.2)))*ov))+wrap .i64 (wrap .i64 (x.2.1-wrap
 IntKind.i64 (min r_4 (wrap .i64 (x.1.1-1))*x.2.2.2))*r_6)))).bind fun (ov_1:Int)=>some (ov,ov_1,0)
theorem le13 (x):Le (m13F x) (m13 x):=by
 unfold m13F m13
 repeat' first | with_reducible exact le31 _ | with_reducible exact Le.refl _ | intro _ | apply Le.bind | apply Le.cond | apply Le.nil | apply Le.loop | apply Le.elim
def m14F:(Int×Int×List Int×List Int)→Option (Int×Int) :=
 fun x=>(m31F (x.1,x.2.1,x.2.2.1,x.2.2.2)).bind fun r=>bif PE.notM r then some (0,0) else ((loopF (fun (s:Int×Int)=>bif ltM s.1 x.2.1 then (loopF
 (fun (s_1:Int×Int)=>bif ltM s_1.1 x.1 then ((idxM x.2.2.1 (wrap .i64 (wrap .i64 (s.1*wrap .i64 (x.1+1))+s_1.1))).bind fun r
 => some r).bind fun (ov:Int)=>((idxM x.2.2.1 (wrap .i64 (wrap .i64 (s.1*wrap .i64 (x.1+1))+wrap .i64 (s_1.1+1)))).bind
 fun r=>some r).bind fun (ov_1:Int)=>((idxM x.2.2.1 (wrap .i64 (wrap .i64 (wrap .i64 (s.1+1)*wrap .i64 (x.1+1))+wrap
 IntKind.i64 (s_1.1+1)))).bind fun r=>some r).bind fun (ov_2:Int)=>((idxM x.2.2.1 (wrap .i64 (wrap .i64 (s.1*wrap .i64 (x.1 +
 1))+s_1.1))).bind fun r=>some r).bind fun (ov_3:Int)=>((idxM x.2.2.1 (wrap .i64 (wrap .i64 (wrap .i64 (s.1+1)*wrap
 IntKind.i64 (x.1+1))+wrap .i64 (s_1.1+1)))).bind fun r=>some r).bind fun (ov_4:Int)=>((idxM x.2.2.1 (wrap .i64 (wrap IntKind.i64
 (wrap .i64 (s.1+1)*wrap .i64 (x.1+1))+s_1.1))).bind fun r=>some r).bind fun (ov_5:Int)=>some (Sum.inl (wrap .i64 (s_1.1 +
 1),wrap .i64 (wrap .i64 (s_1.2+wrap .i64 (wrap .i64 (ov+ov_1)+ov_2))+wrap .i64 (wrap .i64 (ov_3+ov_4) +
 ov_5)))) else some (Sum.inr s_1.2)) (0,s.2)).bind fun o=>some (Sum.inl (wrap .i64 (s.1+1),o)) else some (Sum.inr s.2)) (0,0)).bind fun o=>some
 o).bind fun (ov:Int)=>((loopF (fun (s:Int×Int)=>bif ltM s.1 x.2.1 then (loopF (fun (s_1:Int×Int)=>bif ltM s_1.1 x.1 then ((idxM x.2.2.2 (wrap
 IntKind.i64 (wrap .i64 (s.1*wrap .i64 (x.1+1))+s_1.1))).bind fun r=>some r).bind fun (ov_1:Int)=>((idxM x.2.2.2 (wrap IntKind.i64
 (wrap .i64 (s.1*wrap .i64 (x.1+1))+wrap .i64 (s_1.1+1)))).bind fun r=>some r).bind fun (ov_2:Int)=>((idxM x.2.2.2 (wrap
 IntKind.i64 (wrap .i64 (wrap .i64 (s.1+1)*wrap .i64 (x.1+1))+wrap .i64 (s_1.1+1)))).bind fun r=>some r).bind fun (ov_3
 : Int)=>((idxM x.2.2.2 (wrap .i64 (wrap .i64 (s.1*wrap .i64 (x.1+1))+s_1.1))).bind fun r=>some r).bind fun (ov_4:Int) =>
 ((idxM x.2.2.2 (wrap .i64 (wrap .i64 (wrap .i64 (s.1+1)*wrap .i64 (x.1+1))+wrap .i64 (s_1.1+1)))).bind fun r =>
 some r).bind fun (ov_5:Int)=>((idxM x.2.2.2 (wrap .i64 (wrap .i64 (wrap .i64 (s.1+1)*wrap .i64 (x.1+1))+s_1.1))).bind
 fun r=>some r).bind fun (ov:Int)=>some (Sum.inl (wrap .i64 (s_1.1+1),wrap .i64 (wrap .i64 (s_1.2+wrap .i64 (wrap
 IntKind.i64 (ov_1+ov_2)+ov_3))+wrap .i64 (wrap .i64 (ov_4+ov_5)+ov)))) else some (Sum.inr s_1.2)) (0,s.2)).bind fun o=>some
 (Sum.inl (wrap .i64 (s.1+1),o)) else some (Sum.inr s.2)) (0,0)).bind fun o=>some o).bind fun (ov_1:Int)=>some (ov,ov_1)
theorem le14 (x):Le (m14F x) (m14 x):=by
 unfold m14F m14
 repeat' first | with_reducible exact le31 _ | with_reducible exact Le.refl _ | intro _ | apply Le.bind | apply Le.cond | apply Le.nil | apply Le.loop | apply Le.elim
def m28F:(List (Int×Int))→Option (Bool) :=
 fun x=>(bif PE.notM (PE.orM (ltM (lenM x) 3) (ltM 8 (lenM x))) then ((loopF (fun (s:Int)=>bif ltM s (lenM x) then (idxM x s).bind fun r=>(m65 (r.1,
 r.2)).bind fun r=>bif r then some (Sum.inr (Sum.inr s)) else some (Sum.inl (wrap .i64 (s+1))) else some (Sum.inr (Sum.inl ()))) 0).bind fun o =>
 Sum.elim (fun (t:Unit)=>some (-1)) (fun (t:Int)=>some t) o).bind fun (ov:Int)=>some (leM 0 ov) else some false).bind fun (ov:Bool)=>bif PE.orM
 (PE.orM (ltM (lenM x) 3) (ltM 8 (lenM x))) ov then some false else (loopF (fun (s:Int)=>bif ltM s (lenM x) then (idxM x s).bind fun r=>(remM (wrap
 IntKind.i64 (s+1)) (lenM x)).bind fun r_1=>(loopF (fun (s_1:Int)=>bif ltM s_1 (lenM x) then (idxM x s_1).bind fun r_2=>(bif PE.andM (PE.notM (eqM
 s_1 s)) (PE.notM (eqM s_1 r_1)) then idxM x r_1 else some (0,0)).bind fun r_3=>(bif PE.andM (PE.notM (eqM s_1 s)) (PE.notM (eqM s_1 r_1)) then m64 ((r.1,
 r.2),(r_3.1,r_3.2),r_2.1,r_2.2) else some 0).bind fun r=>bif PE.andM (PE.andM (PE.notM (eqM s_1 s)) (PE.notM (eqM s_1 r_1))) (leM r 0) then some
 (Sum.inr (Sum.inr false)) else some (Sum.inl (wrap .i64 (s_1+1))) else some (Sum.inr (Sum.inl ()))) 0).bind fun o=>Sum.elim (fun (t:Unit)=>some
 (Sum.inl (wrap .i64 (s+1)))) (fun (t:Bool)=>some (Sum.inr (Sum.inr t))) o else some (Sum.inr (Sum.inl ()))) 0).bind fun o=>Sum.elim (fun (t :
 Unit)=>some true) (fun (t:Bool)=>some t) o
theorem le28 (x):Le (m28F x) (m28 x):=by
 unfold m28F m28
 repeat' first | with_reducible exact Le.refl _ | intro _ | apply Le.bind | apply Le.cond | apply Le.nil | apply Le.loop | apply Le.elim
def m113F:List Int→Option (List Int) :=
 fun x=>(loopF (fun (s:List Int)=>(bif ltM 0 (lenM s) then idxM s (wrap .i64 (lenM s-1)) else some 0).bind fun r=>bif PE.andM (ltM 0 (lenM s))
 (eqM r 0) then (sliceM s 0 (wrap .i64 (lenM s-1))).bind fun r=>some (Sum.inl r) else some (Sum.inr s)) x).bind fun o=>some o
theorem le113 (x):Le (m113F x) (m113 x):=by
 unfold m113F m113
 repeat' first | with_reducible exact Le.refl _ | intro _ | apply Le.bind | apply Le.cond | apply Le.nil | apply Le.loop | apply Le.elim
def m111F:List UInt8→Option (Bool×List Int) :=
 fun x=>(loopF (fun (s:List UInt8×Bool×List Int)=>bif ltM 0 (lenM s.1) then (sliceM s.1 (max 0 (wrap .i64 (lenM s.1-4))) (lenM s.1)).bind fun
 r=>(atoiM r).bind fun r_1=>(appM (nat_lit 8) s.2.2 [r_1]).bind fun r_2=>(sliceM s.1 0 (max 0 (wrap .i64 (lenM s.1-4)))).bind fun r=>some
 (Sum.inl (r,s.2.1,r_2)) else some (Sum.inr (s.2.1,s.2.2))) (prefM x [(45:UInt8)],ltM (lenM (prefM x [(45:UInt8)])) (lenM x),[])).bind fun o=>(m113F
 o.2).bind fun r=>some (o.1,r)
theorem le111 (x):Le (m111F x) (m111 x):=by
 unfold m111F m111
 repeat' first | with_reducible exact le113 _ | with_reducible exact Le.refl _ | intro _ | apply Le.bind | apply Le.cond | apply Le.nil | apply Le.loop | apply Le.elim
def m82F:(List UInt8×List UInt8)→Option ((Bool×List Int)×(Bool×List Int)×Bool) :=
 fun x=>(m110 x.1).bind fun r=>(bif PE.notM (PE.notM r) then m110 x.2 else some false).bind fun r_1=>bif PE.orM (PE.notM r) (PE.notM r_1) then some
 ((false,[]),(false,[]),false) else (m111F x.1).bind fun r_2=>(m111F x.2).bind fun r=>some ((r_2.1,r_2.2),(r.1,r.2),true)
theorem le82 (x):Le (m82F x) (m82 x):=by
 unfold m82F m82
 repeat' first | with_reducible exact le111 _ | with_reducible exact Le.refl _ | intro _ | apply Le.bind | apply Le.cond | apply Le.nil | apply Le.loop | apply Le.elim
def m88F:(List Int×List Int)→Option (Int) :=
 fun x=>bif PE.notM (eqM (lenM x.1) (lenM x.2)) then (m124 (lenM x.1,lenM x.2)).bind fun r=>some r else (loopF (fun (s:Int)=>bif leM 0 s then (idxM x.1
 s).bind fun r=>(idxM x.2 s).bind fun r_1=>bif PE.notM (eqM r r_1) then (idxM x.2 s).bind fun r_2=>(m124 (r,r_2)).bind fun r=>some (Sum.inr (Sum.inr
 r)) else some (Sum.inl (wrap .i64 (s-1))) else some (Sum.inr (Sum.inl ()))) (wrap .i64 (lenM x.1-1))).bind fun o=>Sum.elim (fun (t:Unit)
 => some 0) (fun (t:Int)=>some t) o
theorem le88 (x):Le (m88F x) (m88 x):=by
 unfold m88F m88
 repeat' first | with_reducible exact Le.refl _ | intro _ | apply Le.bind | apply Le.cond | apply Le.nil | apply Le.loop | apply Le.elim
def m57F:(List UInt8×List UInt8)→Option (Int) :=
 fun x=>(m82F (x.1,x.2)).bind fun r=>bif PE.notM r.2.2 then some 0 else bif PE.andM r.1.1 r.2.1.1 then (m88F (r.2.1.2,r.1.2)).bind fun r=>some r else bif
 r.1.1 then some (-1) else bif r.2.1.1 then some 1 else (m88F (r.1.2,r.2.1.2)).bind fun r=>some r
theorem le57 (x):Le (m57F x) (m57 x):=by
 unfold m57F m57
 repeat' first | with_reducible exact le82 _ | with_reducible exact le88 _ | with_reducible exact Le.refl _ | intro _ | apply Le.bind | apply Le.cond | apply Le.nil | apply Le.loop | apply Le.elim
def m84F:(List Int×List Int)→Option (List Int) :=
 fun x=>(mkM 0 (wrap .i64 (max (lenM x.1) (lenM x.2)+1)) (nat_lit 8) 0).bind fun r=>(loopF (fun (s:Int×Int×List Int)=>bif PE.orM (ltM s.2.1
 (max (lenM x.1) (lenM x.2))) (PE.notM (eqM s.1 0)) then (m119 (x.1,s.2.1)).bind fun r_1=>(m119 (x.2,s.2.1)).bind fun r_2=>(bif ltM (wrap IntKind.i64
 (wrap .i64 (r_1+r_2)+s.1)) 0 then some ((-1),wrap .i64 (wrap .i64 (wrap .i64 (r_1+r_2)+s.1)+10000)) else bif leM 10000
 (wrap .i64 (wrap .i64 (r_1+r_2)+s.1)) then (divM .i64 (wrap .i64 (wrap .i64 (r_1+r_2)+s.1)) 10000).bind fun r_3 =>
 (remM (wrap .i64 (wrap .i64 (r_1+r_2)+s.1)) 10000).bind fun r=>some (r_3,r) else some (0,wrap .i64 (wrap .i64 (r_1+r_2)
 + s.1))).bind fun o=>(appM (nat_lit 8) s.2.2 [o.2]).bind fun r=>some (Sum.inl (o.1,wrap .i64 (s.2.1+1),r)) else some (Sum.inr s.2.2)) (0,0,
 r)).bind fun o=>(m113F o).bind fun r=>some r
theorem le84 (x):Le (m84F x) (m84 x):=by
 unfold m84F m84
 repeat' first | with_reducible exact le113 _ | with_reducible exact Le.refl _ | intro _ | apply Le.bind | apply Le.cond | apply Le.nil | apply Le.loop | apply Le.elim
def m86F:(List Int×List Int)→Option (List Int) :=
 fun x=>(mkM 0 (wrap .i64 (lenM x.1+1)) (nat_lit 8) 0).bind fun r=>(loopF (fun (s:Int×Int×List Int)=>bif PE.orM (ltM s.2.1 (lenM x.1))
 (PE.notM (eqM s.1 0)) then (m119 (x.1,s.2.1)).bind fun r_1=>(m119 (x.2,s.2.1)).bind fun r_2=>(bif ltM (wrap .i64 (wrap .i64 (r_1-r_2) +
 s.1)) 0 then some ((-1),wrap .i64 (wrap .i64 (wrap .i64 (r_1-r_2)+s.1)+10000)) else bif leM 10000 (wrap .i64 (wrap
 IntKind.i64 (r_1-r_2)+s.1)) then (divM .i64 (wrap .i64 (wrap .i64 (r_1-r_2)+s.1)) 10000).bind fun r_3=>(remM (wrap IntKind.i64
 (wrap .i64 (r_1-r_2)+s.1)) 10000).bind fun r=>some (r_3,r) else some (0,wrap .i64 (wrap .i64 (r_1-r_2)+s.1))).bind fun o =>
 (appM (nat_lit 8) s.2.2 [o.2]).bind fun r=>some (Sum.inl (o.1,wrap .i64 (s.2.1+1),r)) else some (Sum.inr s.2.2)) (0,0,r)).bind fun o=>(m113F
 o).bind fun r=>some r
theorem le86 (x):Le (m86F x) (m86 x):=by
 unfold m86F m86
 repeat' first | with_reducible exact le113 _ | with_reducible exact Le.refl _ | intro _ | apply Le.bind | apply Le.cond | apply Le.nil | apply Le.loop | apply Le.elim
def m95F:((Bool×List Int)×Bool×List Int)→Option (Bool×List Int) :=
 fun x=>bif eqbM x.1.1 x.2.1 then (m84F (x.1.2,x.2.2)).bind fun r=>some (x.1.1,r) else (m88F (x.1.2,x.2.2)).bind fun r=>bif leM 0 r then (m86F (x.1.2,
 x.2.2)).bind fun r=>some (x.1.1,r) else (m86F (x.2.2,x.1.2)).bind fun r=>some (x.2.1,r)
theorem le95 (x):Le (m95F x) (m95 x):=by
 unfold m95F m95
 repeat' first | with_reducible exact le84 _ | with_reducible exact le86 _ | with_reducible exact le88 _ | with_reducible exact Le.refl _ | intro _ | apply Le.bind | apply Le.cond | apply Le.nil | apply Le.loop | apply Le.elim
def m87F:(Bool×List Int)→Option (List UInt8×Int) :=
 fun x=>bif eqM (lenM x.2) 0 then some ([(48:UInt8)],0) else (loopF (fun (s:Int×List UInt8)=>bif leM 0 s.1 then (idxM x.2 s.1).bind fun r=>(bif ltM
 s.1 (wrap .i64 (lenM x.2-1)) then (rptM [(48:UInt8)] (wrap .i64 (4-lenM (itoaM r)))).bind fun r_1=>(catM r_1 (itoaM r)).bind fun r =>
 some r else some (itoaM r)).bind fun o=>(catB s.2 o).bind fun r=>some (Sum.inl (wrap .i64 (s.1-1),r)) else some (Sum.inr s.2)) (wrap IntKind.i64
 (lenM x.2-1),[])).bind fun o=>bif ltM 200 (lenM o) then some ([],30) else bif x.1 then (catM [(45:UInt8)] o).bind fun r=>some (r,0) else some (o,
 0)
theorem le87 (x):Le (m87F x) (m87 x):=by
 unfold m87F m87
 repeat' first | with_reducible exact Le.refl _ | intro _ | apply Le.bind | apply Le.cond | apply Le.nil | apply Le.loop | apply Le.elim
def m108F:(List UInt8×List UInt8)→Option (List UInt8×Int) :=
 fun x=>(m82F (x.1,x.2)).bind fun r=>bif PE.notM r.2.2 then some ([],30) else (m95F ((r.1.1,r.1.2),PE.notM r.2.1.1,r.2.1.2)).bind fun r_1=>(m87F
 (r_1.1,r_1.2)).bind fun r=>some (r.1,r.2)
theorem le108 (x):Le (m108F x) (m108 x):=by
 unfold m108F m108
 repeat' first | with_reducible exact le82 _ | with_reducible exact le87 _ | with_reducible exact le95 _ | with_reducible exact Le.refl _ | intro _ | apply Le.bind | apply Le.cond | apply Le.nil | apply Le.loop | apply Le.elim
def m114F:(List Int×Int)→Option (List Int) :=
 fun x=>(mkM 0 (wrap .i64 (lenM x.1+1)) (nat_lit 8) 0).bind fun r=>(loopF (fun (s:Int×Int×List Int)=>bif PE.orM (ltM s.2.1 (lenM x.1))
 (PE.notM (eqM s.1 0)) then (m119 (x.1,s.2.1)).bind fun r_1=>(bif ltM (wrap .i64 (wrap .i64 (r_1*x.2)+s.1)) 0 then some ((-1),wrap
 IntKind.i64 (wrap .i64 (wrap .i64 (r_1*x.2)+s.1)+10000)) else bif leM 10000 (wrap .i64 (wrap .i64 (r_1*x.2)+s.1)) then
 (divM .i64 (wrap .i64 (wrap .i64 (r_1*x.2)+s.1)) 10000).bind fun r_2=>(remM (wrap .i64 (wrap .i64 (r_1*x.2)+s.1))
 10000).bind fun r=>some (r_2,r) else some (0,wrap .i64 (wrap .i64 (r_1*x.2)+s.1))).bind fun o=>(appM (nat_lit 8) s.2.2 [o.2]).bind fun
 r=>some (Sum.inl (o.1,wrap .i64 (s.2.1+1),r)) else some (Sum.inr s.2.2)) (0,0,r)).bind fun o=>(m113F o).bind fun r=>some r
theorem le114 (x):Le (m114F x) (m114 x):=by
 unfold m114F m114
 repeat' first | with_reducible exact le113 _ | with_reducible exact Le.refl _ | intro _ | apply Le.bind | apply Le.cond | apply Le.nil | apply Le.loop | apply Le.elim
def m83F:(List Int×List Int)→Option (List Int×List Int) :=
 fun x=>(mkM (lenM x.1) (lenM x.1) (nat_lit 8) 0).bind fun r=>(loopF (fun (s:Int×List Int×List Int)=>bif leM 0 s.1 then (idxM x.1 s.1).bind fun r_1
 => (appM (nat_lit 8) [r_1] s.2.1).bind fun r_2=>(m113F r_2).bind fun r_3=>((loopF (fun (s_1:Int×Int)=>bif ltM s_1.1 s_1.2 then (shrM IntKind.u64
 (wrap IntKind.u64 (wrap .i64 (s_1.1+s_1.2))) 1).bind fun r_4=>(m114F (x.2,wrap .i64 (wrap .i64 r_4+1))).bind fun r_5=>(m88F
 (r_5,r_3)).bind fun r=>bif PE.notM (ltM 0 r) then some (Sum.inl (wrap .i64 (wrap .i64 r_4+1),s_1.2)) else some (Sum.inl (s_1.1,wrap
 IntKind.i64 r_4)) else some (Sum.inr s_1.1)) (0,9999)).bind fun o=>some o).bind fun (ov:Int)=>(chkM s.1 (lenM s.2.2)).bind fun r_4=>(setM s.2.2 s.1
 fun (x:Int)=>some ov).bind fun r_5=>(chkM s.1 (lenM r_5)).bind fun r_6=>(idxM r_5 s.1).bind fun r_7=>(m114F (x.2,r_7)).bind fun r_8=>(m86F (r_3,
 r_8)).bind fun r=>some (Sum.inl (wrap .i64 (s.1-1),r,r_5)) else some (Sum.inr (s.2.1,s.2.2))) (wrap .i64 (lenM x.1-1),[],r)).bind fun
 o=>(m113F o.2).bind fun r=>some (r,o.1)
theorem le83 (x):Le (m83F x) (m83 x):=by
 unfold m83F m83
 repeat' first | with_reducible exact le86 _ | with_reducible exact le88 _ | with_reducible exact le113 _ | with_reducible exact le114 _ | with_reducible exact Le.refl _ | intro _ | apply Le.bind | apply Le.cond | apply Le.nil | apply Le.loop | apply Le.elim
def m81F:(List UInt8×List UInt8)→Option (List UInt8×Int) :=
 fun x=>(m82F (x.1,x.2)).bind fun r=>bif PE.notM r.2.2 then some ([],30) else (loopF (fun (s:List Int×List Int)=>bif ltM 0 (lenM s.2) then (m83F
 (s.1,s.2)).bind fun r=>some (Sum.inl (s.2,r.2)) else some (Sum.inr s.1)) (r.1.2,r.2.1.2)).bind fun o=>(m87F (false,o)).bind fun r=>some (r.1,r.2)
theorem le81 (x):Le (m81F x) (m81 x):=by
 unfold m81F m81
 repeat' first | with_reducible exact le82 _ | with_reducible exact le83 _ | with_reducible exact le87 _ | with_reducible exact Le.refl _ | intro _ | apply Le.bind | apply Le.cond | apply Le.nil | apply Le.loop | apply Le.elim
def m56F:(List UInt8×List UInt8)→Option (List UInt8×List UInt8×Int) :=
 fun x=>(m82F (x.1,x.2)).bind fun r=>bif PE.orM (PE.notM r.2.2) (eqM (lenM r.2.1.2) 0) then some ([],[],30) else (m83F (r.1.2,r.2.1.2)).bind fun r_1 =>
 (bif PE.andM r.1.1 (ltM 0 (lenM r_1.2)) then (m85 ()).bind fun r_2=>(m84F (r_1.1,r_2)).bind fun r_3=>(m86F (r.2.1.2,r_1.2)).bind fun r=>some (r_3,r)
 else some (r_1.1,r_1.2)).bind fun o=>(m87F (PE.notM (eqbM r.1.1 r.2.1.1),o.1)).bind fun r_2=>bif PE.notM (eqM r_2.2 0) then some ([],[],r_2.2) else
 (m87F (false,o.2)).bind fun r=>some (r_2.1,r.1,0)
theorem le56 (x):Le (m56F x) (m56 x):=by
 unfold m56F m56
 repeat' first | with_reducible exact le82 _ | with_reducible exact le83 _ | with_reducible exact le84 _ | with_reducible exact le86 _ | with_reducible exact le87 _ | with_reducible exact Le.refl _ | intro _ | apply Le.bind | apply Le.cond | apply Le.nil | apply Le.loop | apply Le.elim
def m133F:(List UInt8×List UInt8)→Option (List UInt8×Int) :=
 fun x=>(m56F (x.1,x.2)).bind fun r=>some (r.1,r.2.2)
theorem le133 (x):Le (m133F x) (m133 x):=by
 unfold m133F m133
 repeat' first | with_reducible exact le56 _ | with_reducible exact Le.refl _ | intro _ | apply Le.bind | apply Le.cond | apply Le.nil | apply Le.loop | apply Le.elim
def m58F:(List UInt8×List UInt8)→Option ((List UInt8×List UInt8)×Int) :=
 fun x=>(m80 x.1).bind fun r=>(bif PE.notM (PE.notM r) then m80 x.2 else some false).bind fun r_1=>(bif PE.orM (PE.orM (PE.notM r) (PE.notM r_1)) (eqsM x.2
 [(48:UInt8)]) then some ([],[],40,PE.orM (PE.notM r) (PE.notM r_1)) else ((m57F (x.2,[(48:UInt8)])).bind fun r_2=>bif ltM r_2 0 then (bif PE.orM
 (PE.notM r) (PE.notM r_1) then some ([],PE.orM (PE.notM r) (PE.notM r_1)) else (m108F ([(48:UInt8)],x.1)).bind fun r=>some (r.1,PE.notM (eqM r.2
 0))).bind fun (ov:List UInt8×Bool)=>(bif ov.2 then some ([],ov.2) else (m108F ([(48:UInt8)],x.2)).bind fun r=>some (r.1,PE.notM (eqM r.2
 0))).bind fun (ov_1:List UInt8×Bool)=>some (ov.1,ov_1.1,ov_1.2) else some (x.1,x.2,PE.orM (PE.notM r) (PE.notM r_1))).bind fun o=>(bif o.2.2 then
 some ([],o.2.2) else (m81F (o.1,o.2.1)).bind fun r=>some (r.1,PE.notM (eqM r.2 0))).bind fun (ov:List UInt8×Bool)=>(bif ov.2 then some ([],ov.2)
 else (m133F (o.1,ov.1)).bind fun r=>some (r.1,PE.notM (eqM r.2 0))).bind fun (ov_1:List UInt8×Bool)=>(bif ov_1.2 then some ([],ov_1.2) else (m133F
 (o.2.1,ov.1)).bind fun r=>some (r.1,PE.notM (eqM r.2 0))).bind fun (ov:List UInt8×Bool)=>bif ov.2 then some ([],[],40,ov.2) else some (ov_1.1,
 ov.1,0,ov.2)).bind fun (ov:List UInt8×List UInt8×Int×Bool)=>some ((ov.1,ov.2.1),ov.2.2.1)
theorem le58 (x):Le (m58F x) (m58 x):=by
 unfold m58F m58
 repeat' first | with_reducible exact le57 _ | with_reducible exact le81 _ | with_reducible exact le108 _ | with_reducible exact le133 _ | with_reducible exact Le.refl _ | intro _ | apply Le.bind | apply Le.cond | apply Le.nil | apply Le.loop | apply Le.elim
def m25F:(Int×Int)→Option ((List UInt8×List UInt8)×Int) :=
 fun x=>(m59 x.1).bind fun r=>(m59 x.2).bind fun r_1=>(m58F (r,r_1)).bind fun r=>some ((r.1.1,r.1.2),r.2)
theorem le25 (x):Le (m25F x) (m25 x):=by
 unfold m25F m25
 repeat' first | with_reducible exact le58 _ | with_reducible exact Le.refl _ | intro _ | apply Le.bind | apply Le.cond | apply Le.nil | apply Le.loop | apply Le.elim
def m93F:(Int×Int)→Option (Int) :=
 fun x=>(loopF (fun (s:Int×Int)=>bif PE.notM (eqM s.2 0) then (remM s.1 s.2).bind fun r=>some (Sum.inl (s.2,r)) else some (Sum.inr s.1)) (x.1,
 x.2)).bind fun o=>some (max o (wrap .i64 (negM o)))
theorem le93 (x):Le (m93F x) (m93 x):=by
 unfold m93F m93
 repeat' first | with_reducible exact Le.refl _ | intro _ | apply Le.bind | apply Le.cond | apply Le.nil | apply Le.loop | apply Le.elim
def m72F:(Int×Int×Int)→Option (Int×Int×Int) :=
 fun x=>(m93F (x.1,x.2.1)).bind fun r=>(m93F (r,x.2.2)).bind fun r_1=>(bif ltM x.2.2 0 then some (wrap .i64 (negM r_1)) else some r_1).bind fun o
 => (divM .i64 x.1 o).bind fun r_2=>(divM .i64 x.2.1 o).bind fun r_3=>(divM .i64 x.2.2 o).bind fun r=>some (r_2,r_3,r)
theorem le72 (x):Le (m72F x) (m72 x):=by
 unfold m72F m72
 repeat' first | with_reducible exact le93 _ | with_reducible exact Le.refl _ | intro _ | apply Le.bind | apply Le.cond | apply Le.nil | apply Le.loop | apply Le.elim
def m55F:(List UInt8×List UInt8)→Option (Bool) :=
 fun x=>(m80 x.1).bind fun r=>(bif PE.notM (PE.notM r) then m80 x.2 else some false).bind fun r_1=>(bif PE.notM (PE.orM (PE.notM r) (PE.notM r_1)) then
 m57F (x.2,[(48:UInt8)]) else some 0).bind fun r_2=>bif PE.orM (PE.orM (PE.notM r) (PE.notM r_1)) (leM r_2 0) then some false else (m81F (x.1,x.2)).bind
 fun r=>some (PE.andM (eqM r.2 0) (eqsM r.1 [(49:UInt8)]))
theorem le55 (x):Le (m55F x) (m55 x):=by
 unfold m55F m55
 repeat' first | with_reducible exact le57 _ | with_reducible exact le81 _ | with_reducible exact Le.refl _ | intro _ | apply Le.bind | apply Le.cond | apply Le.nil | apply Le.loop | apply Le.elim
def m132F:(List Int×List Int)→Option (List Int) :=
 fun x=>(loopF (fun (s:Int×List Int)=>bif leM 0 s.1 then (idxM x.2 s.1).bind fun r=>(bif ltM 0 (lenM s.2) then (appM (nat_lit 8) [0] s.2).bind fun r =>
 some r else some s.2).bind fun o=>(m114F (x.1,r)).bind fun r_1=>(m84F (o,r_1)).bind fun r=>some (Sum.inl (wrap .i64 (s.1-1),r)) else some
 (Sum.inr s.2)) (wrap .i64 (lenM x.2-1),[])).bind fun o=>some o
theorem le132 (x):Le (m132F x) (m132 x):=by
 unfold m132F m132
 repeat' first | with_reducible exact le84 _ | with_reducible exact le114 _ | with_reducible exact Le.refl _ | intro _ | apply Le.bind | apply Le.cond | apply Le.nil | apply Le.loop | apply Le.elim
def m107F:(List UInt8×List UInt8)→Option (List UInt8×Int) :=
 fun x=>(m82F (x.1,x.2)).bind fun r=>bif PE.notM r.2.2 then some ([],30) else (m132F (r.1.2,r.2.1.2)).bind fun r_1=>(m87F (PE.notM (eqbM r.1.1 r.2.1.1),
 r_1)).bind fun r=>some (r.1,r.2)
theorem le107 (x):Le (m107F x) (m107 x):=by
 unfold m107F m107
 repeat' first | with_reducible exact le82 _ | with_reducible exact le87 _ | with_reducible exact le132 _ | with_reducible exact Le.refl _ | intro _ | apply Le.bind | apply Le.cond | apply Le.nil | apply Le.loop | apply Le.elim
def m74F:(List UInt8×List UInt8)→Option (List UInt8×Int) :=
 fun x=>(m82F (x.1,x.2)).bind fun r=>bif PE.notM r.2.2 then some ([],30) else (m95F ((r.1.1,r.1.2),r.2.1.1,r.2.1.2)).bind fun r_1=>(m87F (r_1.1,
 r_1.2)).bind fun r=>some (r.1,r.2)
theorem le74 (x):Le (m74F x) (m74 x):=by
 unfold m74F m74
 repeat' first | with_reducible exact le82 _ | with_reducible exact le87 _ | with_reducible exact le95 _ | with_reducible exact Le.refl _ | intro _ | apply Le.bind | apply Le.cond | apply Le.nil | apply Le.loop | apply Le.elim
def m49F:((List UInt8×List UInt8)×List UInt8×List UInt8)→Option ((List UInt8×List UInt8)×Int) :=
 fun x=>(loopF (fun (s:Int×Bool)=>bif ltM s.1 (lenM [(x.1.1,x.1.2),(x.2.1,x.2.2)]) then (idxM [(x.1.1,x.1.2),(x.2.1,x.2.2)] s.1).bind fun r=>(bif
 PE.notM s.2 then m55F (r.1,r.2) else some false).bind fun r=>some (Sum.inl (wrap .i64 (s.1+1),PE.orM s.2 (PE.notM r))) else some (Sum.inr s.2))
 (0,false)).bind fun o=>((bif o then some ([],o) else (m107F (x.1.1,x.2.2)).bind fun r=>some (r.1,PE.notM (eqM r.2 0))).bind fun (ov:List UInt8 ×
 Bool)=>some (ov.1,ov.2)).bind fun (ov:List UInt8×Bool)=>((bif ov.2 then some ([],ov.2) else (m107F (x.2.1,x.1.2)).bind fun r=>some (r.1,PE.notM
 (eqM r.2 0))).bind fun (ov:List UInt8×Bool)=>some (ov.1,ov.2)).bind fun (ov_1:List UInt8×Bool)=>(bif ov_1.2 then some ([],ov_1.2) else (m74F
 (ov.1,ov_1.1)).bind fun r=>some (r.1,PE.notM (eqM r.2 0))).bind fun (ov_2:List UInt8×Bool)=>(bif ov_2.2 then some ([],ov_2.2) else (m107F (x.1.2,
 x.2.2)).bind fun r=>some (r.1,PE.notM (eqM r.2 0))).bind fun (ov_3:List UInt8×Bool)=>(bif PE.orM ov_3.2 (eqsM ov_3.1 [(48:UInt8)]) then some ([],
 [],40,ov_3.2) else ((m57F (ov_3.1,[(48:UInt8)])).bind fun r=>bif ltM r 0 then (bif ov_3.2 then some ([],ov_3.2) else (m108F ([(48:UInt8)],
 ov_2.1)).bind fun r=>some (r.1,PE.notM (eqM r.2 0))).bind fun (ov_4:List UInt8×Bool)=>(bif ov_4.2 then some ([],ov_4.2) else (m108F ([(48:UInt8)],
 ov_3.1)).bind fun r=>some (r.1,PE.notM (eqM r.2 0))).bind fun (ov:List UInt8×Bool)=>some (ov_4.1,ov.1,ov.2) else some (ov_2.1,ov_3.1,
 ov_3.2)).bind fun o_1=>(bif o_1.2.2 then some ([],o_1.2.2) else (m81F (o_1.1,o_1.2.1)).bind fun r=>some (r.1,PE.notM (eqM r.2 0))).bind fun (ov_4 :
 List UInt8×Bool)=>(bif ov_4.2 then some ([],ov_4.2) else (m133F (o_1.1,ov_4.1)).bind fun r=>some (r.1,PE.notM (eqM r.2 0))).bind fun (ov_5:List
 UInt8×Bool)=>(bif ov_5.2 then some ([],ov_5.2) else (m133F (o_1.2.1,ov_4.1)).bind fun r=>some (r.1,PE.notM (eqM r.2 0))).bind fun (ov:List UInt8 ×
 Bool)=>bif ov.2 then some ([],[],40,ov.2) else some (ov_5.1,ov.1,0,ov.2)).bind fun (ov:List UInt8×List UInt8×Int×Bool)=>some ((ov.1,
 ov.2.1),ov.2.2.1)
theorem le49 (x):Le (m49F x) (m49 x):=by
 unfold m49F m49
 repeat' first | with_reducible exact le55 _ | with_reducible exact le57 _ | with_reducible exact le74 _ | with_reducible exact le81 _ | with_reducible exact le107 _ | with_reducible exact le108 _ | with_reducible exact le133 _ | with_reducible exact Le.refl _ | intro _ | apply Le.bind | apply Le.cond | apply Le.nil | apply Le.loop | apply Le.elim
def m17F:((Int×Int×List Int×List Int)×List (Int×Int))→Option ((List UInt8×List UInt8)×(List UInt8×List UInt8)×Int) :=
 fun x=>(m31F (x.1.1,x.1.2.1,x.1.2.2.1,x.1.2.2.2)).bind fun r=>(bif PE.notM (PE.notM r) then m28F x.2 else some false).bind fun r_1=>(bif PE.notM
 (PE.orM (PE.notM r) (PE.notM r_1)) then ((loopF (fun (s:Int)=>bif ltM s (lenM x.2) then (idxM x.2 s).bind fun r=>bif PE.orM (ltM x.1.1 r.1) (ltM x.1.2.1
 r.2) then some (Sum.inr (Sum.inr s)) else some (Sum.inl (wrap .i64 (s+1))) else some (Sum.inr (Sum.inl ()))) 0).bind fun o=>Sum.elim (fun (t :
 Unit)=>some (-1)) (fun (t:Int)=>some t) o).bind fun (ov:Int)=>some (leM 0 ov) else some false).bind fun (ov:Bool)=>bif PE.orM (PE.orM (PE.notM
 r) (PE.notM r_1)) ov then some (([],[]),([],[]),250) else (loopF (fun (s:Int×List (Int×Int×Int))=>bif ltM s.1 (lenM x.2) then (idxM x.2
 s.1).bind fun r_2=>(appM (nat_lit 24) s.2 [(r_2.1,r_2.2,1)]).bind fun r=>some (Sum.inl (wrap .i64 (s.1+1),r)) else some (Sum.inr s.2)) (0,
 [])).bind fun o=>((m25F (0,1)).bind fun r_2=>(loopF (fun (s:Int×List UInt8×List UInt8)=>bif ltM s.1 x.1.2.1 then (loopF (fun (s_1:Int×List
 UInt8×List UInt8)=>bif ltM s_1.1 x.1.1 then ((loopF (fun (s_2:Int×List (Int×Int×Int))=>bif ltM s_2.1 (lenM o) then ((chkM s_2.1 (lenM o)).bind
 fun r_3=>(idxM o s_2.1).bind fun r_4=>(remM (wrap .i64 (s_2.1+1)) (lenM o)).bind fun r_5=>(chkM r_5 (lenM o)).bind fun r_6=>(idxM o r_5).bind
 fun r_7=>(m48 ((s_1.1,s.1),(wrap .i64 (s_1.1+1),s.1),r_4.1,r_4.2.1,r_4.2.2)).bind fun r_8=>(m48 ((s_1.1,s.1),(wrap .i64 (s_1.1 +
 1),s.1),r_7.1,r_7.2.1,r_7.2.2)).bind fun r_9=>(bif leM 0 r_8 then ((bif PE.notM (eqM (lenM s_2.2) 0) then chkM (wrap .i64 (lenM s_2.2-1)) (lenM
 s_2.2) else some ()).bind fun r_10=>(bif PE.notM (eqM (lenM s_2.2) 0) then idxM s_2.2 (wrap .i64 (lenM s_2.2-1)) else some (0,0,0)).bind fun r_11
 => bif PE.orM (eqM (lenM s_2.2) 0) (PE.notM (PE.andM (eqM r_11.1 r_4.1) (PE.andM (eqM r_11.2.1 r_4.2.1) (eqM r_11.2.2 r_4.2.2)))) then (appM (nat_lit 24)
 s_2.2 [(r_4.1,r_4.2.1,r_4.2.2)]).bind fun r=>some r else some s_2.2).bind fun (ov:List (Int×Int×Int))=>some ov else some s_2.2).bind fun o_1 =>
 bif PE.orM (PE.andM (ltM 0 r_8) (ltM r_9 0)) (PE.andM (ltM r_8 0) (ltM 0 r_9)) then (m72F (wrap .i64 (wrap .i64 (r_4.1*r_9)-wrap IntKind.i64
 (r_7.1*r_8)),wrap .i64 (wrap .i64 (r_4.2.1*r_9)-wrap .i64 (r_7.2.1*r_8)),wrap .i64 (wrap .i64 (r_4.2.2*r_9) -
 wrap .i64 (r_7.2.2*r_8)))).bind fun r_10=>((bif PE.notM (eqM (lenM o_1) 0) then chkM (wrap .i64 (lenM o_1-1)) (lenM o_1) else some
 ()).bind fun r_11=>(bif PE.notM (eqM (lenM o_1) 0) then idxM o_1 (wrap .i64 (lenM o_1-1)) else some (0,0,0)).bind fun r_12=>bif PE.orM (eqM
 (lenM o_1) 0) (PE.notM (PE.andM (eqM r_12.1 r_10.1) (PE.andM (eqM r_12.2.1 r_10.2.1) (eqM r_12.2.2 r_10.2.2)))) then (appM (nat_lit 24) o_1 [(r_10.1,
 r_10.2.1,r_10.2.2)]).bind fun r=>some r else some o_1).bind fun (ov:List (Int×Int×Int))=>some ov else some o_1).bind fun o=>some (Sum.inl (wrap
 IntKind.i64 (s_2.1+1),o)) else some (Sum.inr s_2.2)) (0,[])).bind fun o_1=>bif eqM (lenM o_1) 0 then some o_1 else (loopF (fun (s_2:Int×List (Int ×
 Int×Int))=>bif ltM s_2.1 (lenM o_1) then ((chkM s_2.1 (lenM o_1)).bind fun r_3=>(idxM o_1 s_2.1).bind fun r_4=>(remM (wrap .i64 (s_2.1+1))
 (lenM o_1)).bind fun r_5=>(chkM r_5 (lenM o_1)).bind fun r_6=>(idxM o_1 r_5).bind fun r_7=>(m48 ((wrap .i64 (s_1.1+1),s.1),(wrap IntKind.i64
 (s_1.1+1),wrap .i64 (s.1+1)),r_4.1,r_4.2.1,r_4.2.2)).bind fun r_8=>(m48 ((wrap .i64 (s_1.1+1),s.1),(wrap .i64 (s_1.1+1),
 wrap .i64 (s.1+1)),r_7.1,r_7.2.1,r_7.2.2)).bind fun r_9=>(bif leM 0 r_8 then ((bif PE.notM (eqM (lenM s_2.2) 0) then chkM (wrap IntKind.i64
 (lenM s_2.2-1)) (lenM s_2.2) else some ()).bind fun r_10=>(bif PE.notM (eqM (lenM s_2.2) 0) then idxM s_2.2 (wrap .i64 (lenM s_2.2-1)) else some
 (0,0,0)).bind fun r_11=>bif PE.orM (eqM (lenM s_2.2) 0) (PE.notM (PE.andM (eqM r_11.1 r_4.1) (PE.andM (eqM r_11.2.1 r_4.2.1) (eqM r_11.2.2 r_4.2.2))))
 then (appM (nat_lit 24) s_2.2 [(r_4.1,r_4.2.1,r_4.2.2)]).bind fun r=>some r else some s_2.2).bind fun (ov:List (Int×Int×Int))=>some ov else some
 s_2.2).bind fun o_2=>bif PE.orM (PE.andM (ltM 0 r_8) (ltM r_9 0)) (PE.andM (ltM r_8 0) (ltM 0 r_9)) then (m72F (wrap .i64 (wrap .i64 (r_4.1 *
 r_9)-wrap .i64 (r_7.1*r_8)),wrap .i64 (wrap .i64 (r_4.2.1*r_9)-wrap .i64 (r_7.2.1*r_8)),wrap .i64 (wrap
 IntKind.i64 (r_4.2.2*r_9)-wrap .i64 (r_7.2.2*r_8)))).bind fun r_10=>((bif PE.notM (eqM (lenM o_2) 0) then chkM (wrap .i64 (lenM o_2 -
 1)) (lenM o_2) else some ()).bind fun r_11=>(bif PE.notM (eqM (lenM o_2) 0) then idxM o_2 (wrap .i64 (lenM o_2-1)) else some (0,0,0)).bind fun
 r_12=>bif PE.orM (eqM (lenM o_2) 0) (PE.notM (PE.andM (eqM r_12.1 r_10.1) (PE.andM (eqM r_12.2.1 r_10.2.1) (eqM r_12.2.2 r_10.2.2)))) then (appM (nat_lit
 24) o_2 [(r_10.1,r_10.2.1,r_10.2.2)]).bind fun r=>some r else some o_2).bind fun (ov:List (Int×Int×Int))=>some ov else some o_2).bind fun o =>
 some (Sum.inl (wrap .i64 (s_2.1+1),o)) else some (Sum.inr s_2.2)) (0,[])).bind fun o_2=>bif eqM (lenM o_2) 0 then some o_2 else (loopF (fun (s_2
 : Int×List (Int×Int×Int))=>bif ltM s_2.1 (lenM o_2) then ((chkM s_2.1 (lenM o_2)).bind fun r_3=>(idxM o_2 s_2.1).bind fun r_4=>(remM (wrap
 IntKind.i64 (s_2.1+1)) (lenM o_2)).bind fun r_5=>(chkM r_5 (lenM o_2)).bind fun r_6=>(idxM o_2 r_5).bind fun r_7=>(m48 ((wrap .i64 (s_1.1+1),
 wrap .i64 (s.1+1)),(s_1.1,s.1),r_4.1,r_4.2.1,r_4.2.2)).bind fun r_8=>(m48 ((wrap .i64 (s_1.1+1),wrap .i64 (s.1+1)),(s_1.1,
 s.1),r_7.1,r_7.2.1,r_7.2.2)).bind fun r_9=>(bif leM 0 r_8 then ((bif PE.notM (eqM (lenM s_2.2) 0) then chkM (wrap .i64 (lenM s_2.2-1)) (lenM
 s_2.2) else some ()).bind fun r_10=>(bif PE.notM (eqM (lenM s_2.2) 0) then idxM s_2.2 (wrap .i64 (lenM s_2.2-1)) else some (0,0,0)).bind fun r_11
 => bif PE.orM (eqM (lenM s_2.2) 0) (PE.notM (PE.andM (eqM r_11.1 r_4.1) (PE.andM (eqM r_11.2.1 r_4.2.1) (eqM r_11.2.2 r_4.2.2)))) then (appM (nat_lit 24)
 s_2.2 [(r_4.1,r_4.2.1,r_4.2.2)]).bind fun r=>some r else some s_2.2).bind fun (ov:List (Int×Int×Int))=>some ov else some s_2.2).bind fun o_3 =>
 bif PE.orM (PE.andM (ltM 0 r_8) (ltM r_9 0)) (PE.andM (ltM r_8 0) (ltM 0 r_9)) then (m72F (wrap .i64 (wrap .i64 (r_4.1*r_9)-wrap IntKind.i64
 (r_7.1*r_8)),wrap .i64 (wrap .i64 (r_4.2.1*r_9)-wrap .i64 (r_7.2.1*r_8)),wrap .i64 (wrap .i64 (r_4.2.2*r_9) -
 wrap .i64 (r_7.2.2*r_8)))).bind fun r_10=>((bif PE.notM (eqM (lenM o_3) 0) then chkM (wrap .i64 (lenM o_3-1)) (lenM o_3) else some
 ()).bind fun r_11=>(bif PE.notM (eqM (lenM o_3) 0) then idxM o_3 (wrap .i64 (lenM o_3-1)) else some (0,0,0)).bind fun r_12=>bif PE.orM (eqM
 (lenM o_3) 0) (PE.notM (PE.andM (eqM r_12.1 r_10.1) (PE.andM (eqM r_12.2.1 r_10.2.1) (eqM r_12.2.2 r_10.2.2)))) then (appM (nat_lit 24) o_3 [(r_10.1,
 r_10.2.1,r_10.2.2)]).bind fun r=>some r else some o_3).bind fun (ov:List (Int×Int×Int))=>some ov else some o_3).bind fun o=>some (Sum.inl (wrap
 IntKind.i64 (s_2.1+1),o)) else some (Sum.inr s_2.2)) (0,[])).bind fun o=>bif eqM (lenM o) 0 then some o else some o).bind fun o_1=>(loopF (fun (s_2 :
 Int×List UInt8×List UInt8)=>bif ltM s_2.1 (lenM o_1) then (chkM 0 (lenM o_1)).bind fun r_3=>(idxM o_1 0).bind fun r_4=>(chkM (wrap IntKind.i64
 (s_2.1-1)) (lenM o_1)).bind fun r_5=>(idxM o_1 (wrap .i64 (s_2.1-1))).bind fun r_6=>(chkM s_2.1 (lenM o_1)).bind fun r_7=>(idxM o_1
 s_2.1).bind fun r_8=>(((idxM x.1.2.2.1 (wrap .i64 (wrap .i64 (s.1*wrap .i64 (x.1.1+1))+s_1.1))).bind fun r=>some r).bind fun
 (ov_1:Int)=>(m48 ((wrap .i64 (s_1.1+1),s.1),(wrap .i64 (s_1.1+1),wrap .i64 (s.1+1)),r_4.1,r_4.2.1,r_4.2.2)).bind fun r_9
 => ((idxM x.1.2.2.1 (wrap .i64 (wrap .i64 (s.1*wrap .i64 (x.1.1+1))+wrap .i64 (s_1.1+1)))).bind fun r=>some r).bind fun
 (ov_2:Int)=>(m48 ((wrap .i64 (s_1.1+1),wrap .i64 (s.1+1)),(s_1.1,s.1),r_4.1,r_4.2.1,r_4.2.2)).bind fun r_10=>((idxM x.1.2.2.1
 (wrap .i64 (wrap .i64 (wrap .i64 (s.1+1)*wrap .i64 (x.1.1+1))+wrap .i64 (s_1.1+1)))).bind fun r=>some r).bind
 fun (ov_3:Int)=>(m48 ((s_1.1,s.1),(wrap .i64 (s_1.1+1),s.1),r_4.1,r_4.2.1,r_4.2.2)).bind fun r=>some (wrap .i64 (wrap IntKind.i64
 (wrap .i64 (0+wrap .i64 (ov_1*r_9))+wrap .i64 (ov_2*r_10))+wrap .i64 (ov_3*r)))).bind fun (ov_1:Int)=>(((idxM
 x.1.2.2.1 (wrap .i64 (wrap .i64 (s.1*wrap .i64 (x.1.1+1))+s_1.1))).bind fun r=>some r).bind fun (ov_2:Int)=>(m48 ((wrap
 IntKind.i64 (s_1.1+1),s.1),(wrap .i64 (s_1.1+1),wrap .i64 (s.1+1)),r_6.1,r_6.2.1,r_6.2.2)).bind fun r_9=>((idxM x.1.2.2.1 (wrap
 IntKind.i64 (wrap .i64 (s.1*wrap .i64 (x.1.1+1))+wrap .i64 (s_1.1+1)))).bind fun r=>some r).bind fun (ov_3:Int)=>(m48
 ((wrap .i64 (s_1.1+1),wrap .i64 (s.1+1)),(s_1.1,s.1),r_6.1,r_6.2.1,r_6.2.2)).bind fun r_10=>((idxM x.1.2.2.1 (wrap .i64 (wrap
 IntKind.i64 (wrap .i64 (s.1+1)*wrap .i64 (x.1.1+1))+wrap .i64 (s_1.1+1)))).bind fun r=>some r).bind fun (ov_4:Int)=>(m48
 ((s_1.1,s.1),(wrap .i64 (s_1.1+1),s.1),r_6.1,r_6.2.1,r_6.2.2)).bind fun r=>some (wrap .i64 (wrap .i64 (wrap .i64 (0 +
 wrap .i64 (ov_2*r_9))+wrap .i64 (ov_3*r_10))+wrap .i64 (ov_4*r)))).bind fun (ov_2:Int)=>(((idxM x.1.2.2.1 (wrap IntKind.i64
 (wrap .i64 (s.1*wrap .i64 (x.1.1+1))+s_1.1))).bind fun r=>some r).bind fun (ov_3:Int)=>(m48 ((wrap .i64 (s_1.1+1),s.1),
 (wrap .i64 (s_1.1+1),wrap .i64 (s.1+1)),r_8.1,r_8.2.1,r_8.2.2)).bind fun r_9=>((idxM x.1.2.2.1 (wrap .i64 (wrap IntKind.i64
 (s.1*wrap .i64 (x.1.1+1))+wrap .i64 (s_1.1+1)))).bind fun r=>some r).bind fun (ov_4:Int)=>(m48 ((wrap .i64 (s_1.1+1),
 wrap .i64 (s.1+1)),(s_1.1,s.1),r_8.1,r_8.2.1,r_8.2.2)).bind fun r_10=>((idxM x.1.2.2.1 (wrap .i64 (wrap .i64 (wrap IntKind.i64
 (s.1+1)*wrap .i64 (x.1.1+1))+wrap .i64 (s_1.1+1)))).bind fun r=>some r).bind fun (ov_5:Int)=>(m48 ((s_1.1,s.1),(wrap
 IntKind.i64 (s_1.1+1),s.1),r_8.1,r_8.2.1,r_8.2.2)).bind fun r=>some (wrap .i64 (wrap .i64 (wrap .i64 (0+wrap .i64 (ov_3
 * r_9))+wrap .i64 (ov_4*r_10))+wrap .i64 (ov_5*r)))).bind fun (ov_3:Int)=>(m25F (wrap .i64 (wrap .i64 (wrap
 IntKind.i64 (wrap .i64 (r_4.1*wrap .i64 (wrap .i64 (r_6.2.1*r_8.2.2)-wrap .i64 (r_6.2.2*r_8.2.1)))-wrap IntKind.i64
 (r_4.2.1*wrap .i64 (wrap .i64 (r_6.1*r_8.2.2)-wrap .i64 (r_6.2.2*r_8.1))))+wrap .i64 (r_4.2.2*wrap .i64 (wrap
 IntKind.i64 (r_6.1*r_8.2.1)-wrap .i64 (r_6.2.1*r_8.1))))*wrap .i64 (wrap .i64 (wrap .i64 (wrap .i64 (ov_1 *
 r_6.2.2)*r_8.2.2)+wrap .i64 (wrap .i64 (ov_2*r_4.2.2)*r_8.2.2))+wrap .i64 (wrap .i64 (ov_3*r_4.2.2)*r_6.2.2))),wrap
 IntKind.i64 (wrap .i64 (6*wrap .i64 (wrap .i64 (r_4.2.2*r_6.2.2)*r_8.2.2))*wrap .i64 (wrap .i64 (r_4.2.2*r_6.2.2)
 * r_8.2.2)))).bind fun r_9=>(m49F ((s_2.2.1,s_2.2.2),r_9.1.1,r_9.1.2)).bind fun r=>some (Sum.inl (wrap .i64 (s_2.1+1),r.1.1,r.1.2)) else
 some (Sum.inr (s_2.2.1,s_2.2.2))) (2,s_1.2.1,s_1.2.2)).bind fun o_2=>((loopF (fun (s_2:Int×List (Int×Int×Int))=>bif ltM s_2.1 (lenM o) then
 ((chkM s_2.1 (lenM o)).bind fun r_3=>(idxM o s_2.1).bind fun r_4=>(remM (wrap .i64 (s_2.1+1)) (lenM o)).bind fun r_5=>(chkM r_5 (lenM o)).bind
 fun r_6=>(idxM o r_5).bind fun r_7=>(m48 ((s_1.1,s.1),(wrap .i64 (s_1.1+1),wrap .i64 (s.1+1)),r_4.1,r_4.2.1,r_4.2.2)).bind fun r_8
 => (m48 ((s_1.1,s.1),(wrap .i64 (s_1.1+1),wrap .i64 (s.1+1)),r_7.1,r_7.2.1,r_7.2.2)).bind fun r_9=>(bif leM 0 r_8 then ((bif PE.notM
 (eqM (lenM s_2.2) 0) then chkM (wrap .i64 (lenM s_2.2-1)) (lenM s_2.2) else some ()).bind fun r_10=>(bif PE.notM (eqM (lenM s_2.2) 0) then idxM
 s_2.2 (wrap .i64 (lenM s_2.2-1)) else some (0,0,0)).bind fun r_11=>bif PE.orM (eqM (lenM s_2.2) 0) (PE.notM (PE.andM (eqM r_11.1 r_4.1) (PE.andM
 (eqM r_11.2.1 r_4.2.1) (eqM r_11.2.2 r_4.2.2)))) then (appM (nat_lit 24) s_2.2 [(r_4.1,r_4.2.1,r_4.2.2)]).bind fun r=>some r else some s_2.2).bind fun (ov
 : List (Int×Int×Int))=>some ov else some s_2.2).bind fun o_3=>bif PE.orM (PE.andM (ltM 0 r_8) (ltM r_9 0)) (PE.andM (ltM r_8 0) (ltM 0 r_9)) then
 (m72F (wrap .i64 (wrap .i64 (r_4.1*r_9)-wrap .i64 (r_7.1*r_8)),wrap .i64 (wrap .i64 (r_4.2.1*r_9)-wrap
 IntKind.i64 (r_7.2.1*r_8)),wrap .i64 (wrap .i64 (r_4.2.2*r_9)-wrap .i64 (r_7.2.2*r_8)))).bind fun r_10=>((bif PE.notM (eqM
 (lenM o_3) 0) then chkM (wrap .i64 (lenM o_3-1)) (lenM o_3) else some ()).bind fun r_11=>(bif PE.notM (eqM (lenM o_3) 0) then idxM o_3 (wrap
 IntKind.i64 (lenM o_3-1)) else some (0,0,0)).bind fun r_12=>bif PE.orM (eqM (lenM o_3) 0) (PE.notM (PE.andM (eqM r_12.1 r_10.1) (PE.andM (eqM r_12.2.1
 r_10.2.1) (eqM r_12.2.2 r_10.2.2)))) then (appM (nat_lit 24) o_3 [(r_10.1,r_10.2.1,r_10.2.2)]).bind fun r=>some r else some o_3).bind fun (ov:List (Int
 × Int×Int))=>some ov else some o_3).bind fun o=>some (Sum.inl (wrap .i64 (s_2.1+1),o)) else some (Sum.inr s_2.2)) (0,[])).bind fun o_3=>bif
 eqM (lenM o_3) 0 then some o_3 else (loopF (fun (s_2:Int×List (Int×Int×Int))=>bif ltM s_2.1 (lenM o_3) then ((chkM s_2.1 (lenM o_3)).bind fun r_3 =>
 (idxM o_3 s_2.1).bind fun r_4=>(remM (wrap .i64 (s_2.1+1)) (lenM o_3)).bind fun r_5=>(chkM r_5 (lenM o_3)).bind fun r_6=>(idxM o_3 r_5).bind
 fun r_7=>(m48 ((wrap .i64 (s_1.1+1),wrap .i64 (s.1+1)),(s_1.1,wrap .i64 (s.1+1)),r_4.1,r_4.2.1,r_4.2.2)).bind fun r_8 =>
 (m48 ((wrap .i64 (s_1.1+1),wrap .i64 (s.1+1)),(s_1.1,wrap .i64 (s.1+1)),r_7.1,r_7.2.1,r_7.2.2)).bind fun r_9=>(bif leM 0
 r_8 then ((bif PE.notM (eqM (lenM s_2.2) 0) then chkM (wrap .i64 (lenM s_2.2-1)) (lenM s_2.2) else some ()).bind fun r_10=>(bif PE.notM (eqM (lenM
 s_2.2) 0) then idxM s_2.2 (wrap .i64 (lenM s_2.2-1)) else some (0,0,0)).bind fun r_11=>bif PE.orM (eqM (lenM s_2.2) 0) (PE.notM (PE.andM (eqM
 r_11.1 r_4.1) (PE.andM (eqM r_11.2.1 r_4.2.1) (eqM r_11.2.2 r_4.2.2)))) then (appM (nat_lit 24) s_2.2 [(r_4.1,r_4.2.1,r_4.2.2)]).bind fun r=>some r else
 some s_2.2).bind fun (ov:List (Int×Int×Int))=>some ov else some s_2.2).bind fun o_4=>bif PE.orM (PE.andM (ltM 0 r_8) (ltM r_9 0)) (PE.andM (ltM r_8
 0) (ltM 0 r_9)) then (m72F (wrap .i64 (wrap .i64 (r_4.1*r_9)-wrap .i64 (r_7.1*r_8)),wrap .i64 (wrap .i64 (r_4.2.1 *
 r_9)-wrap .i64 (r_7.2.1*r_8)),wrap .i64 (wrap .i64 (r_4.2.2*r_9)-wrap .i64 (r_7.2.2*r_8)))).bind fun r_10=>((bif
 PE.notM (eqM (lenM o_4) 0) then chkM (wrap .i64 (lenM o_4-1)) (lenM o_4) else some ()).bind fun r_11=>(bif PE.notM (eqM (lenM o_4) 0) then idxM o_4
 (wrap .i64 (lenM o_4-1)) else some (0,0,0)).bind fun r_12=>bif PE.orM (eqM (lenM o_4) 0) (PE.notM (PE.andM (eqM r_12.1 r_10.1) (PE.andM (eqM
 r_12.2.1 r_10.2.1) (eqM r_12.2.2 r_10.2.2)))) then (appM (nat_lit 24) o_4 [(r_10.1,r_10.2.1,r_10.2.2)]).bind fun r=>some r else some o_4).bind fun (ov :
 List (Int×Int×Int))=>some ov else some o_4).bind fun o=>some (Sum.inl (wrap .i64 (s_2.1+1),o)) else some (Sum.inr s_2.2)) (0,[])).bind fun
 o_4=>bif eqM (lenM o_4) 0 then some o_4 else (loopF (fun (s_2:Int×List (Int×Int×Int))=>bif ltM s_2.1 (lenM o_4) then ((chkM s_2.1 (lenM o_4)).bind
 fun r_3=>(idxM o_4 s_2.1).bind fun r_4=>(remM (wrap .i64 (s_2.1+1)) (lenM o_4)).bind fun r_5=>(chkM r_5 (lenM o_4)).bind fun r_6=>(idxM o_4
 r_5).bind fun r_7=>(m48 ((s_1.1,wrap .i64 (s.1+1)),(s_1.1,s.1),r_4.1,r_4.2.1,r_4.2.2)).bind fun r_8=>(m48 ((s_1.1,wrap .i64 (s.1 +
 1)),(s_1.1,s.1),r_7.1,r_7.2.1,r_7.2.2)).bind fun r_9=>(bif leM 0 r_8 then ((bif PE.notM (eqM (lenM s_2.2) 0) then chkM (wrap .i64 (lenM s_2.2 -
 1)) (lenM s_2.2) else some ()).bind fun r_10=>(bif PE.notM (eqM (lenM s_2.2) 0) then idxM s_2.2 (wrap .i64 (lenM s_2.2-1)) else some (0,0,
 0)).bind fun r_11=>bif PE.orM (eqM (lenM s_2.2) 0) (PE.notM (PE.andM (eqM r_11.1 r_4.1) (PE.andM (eqM r_11.2.1 r_4.2.1) (eqM r_11.2.2 r_4.2.2)))) then (appM
 (nat_lit 24) s_2.2 [(r_4.1,r_4.2.1,r_4.2.2)]).bind fun r=>some r else some s_2.2).bind fun (ov:List (Int×Int×Int))=>some ov else some s_2.2).bind
 fun o_5=>bif PE.orM (PE.andM (ltM 0 r_8) (ltM r_9 0)) (PE.andM (ltM r_8 0) (ltM 0 r_9)) then (m72F (wrap .i64 (wrap .i64 (r_4.1*r_9)-wrap
 IntKind.i64 (r_7.1*r_8)),wrap .i64 (wrap .i64 (r_4.2.1*r_9)-wrap .i64 (r_7.2.1*r_8)),wrap .i64 (wrap IntKind.i64
 (r_4.2.2*r_9)-wrap .i64 (r_7.2.2*r_8)))).bind fun r_10=>((bif PE.notM (eqM (lenM o_5) 0) then chkM (wrap .i64 (lenM o_5-1)) (lenM o_5)
 else some ()).bind fun r_11=>(bif PE.notM (eqM (lenM o_5) 0) then idxM o_5 (wrap .i64 (lenM o_5-1)) else some (0,0,0)).bind fun r_12=>bif
 PE.orM (eqM (lenM o_5) 0) (PE.notM (PE.andM (eqM r_12.1 r_10.1) (PE.andM (eqM r_12.2.1 r_10.2.1) (eqM r_12.2.2 r_10.2.2)))) then (appM (nat_lit 24) o_5
 [(r_10.1,r_10.2.1,r_10.2.2)]).bind fun r=>some r else some o_5).bind fun (ov:List (Int×Int×Int))=>some ov else some o_5).bind fun o=>some
 (Sum.inl (wrap .i64 (s_2.1+1),o)) else some (Sum.inr s_2.2)) (0,[])).bind fun o=>bif eqM (lenM o) 0 then some o else some o).bind fun o_3 =>
 (loopF (fun (s_2:Int×List UInt8×List UInt8)=>bif ltM s_2.1 (lenM o_3) then (chkM 0 (lenM o_3)).bind fun r_3=>(idxM o_3 0).bind fun r_4=>(chkM
 (wrap .i64 (s_2.1-1)) (lenM o_3)).bind fun r_5=>(idxM o_3 (wrap .i64 (s_2.1-1))).bind fun r_6=>(chkM s_2.1 (lenM o_3)).bind fun r_7 =>
 (idxM o_3 s_2.1).bind fun r_8=>(((idxM x.1.2.2.1 (wrap .i64 (wrap .i64 (s.1*wrap .i64 (x.1.1+1))+s_1.1))).bind fun r=>some
 r).bind fun (ov_1:Int)=>(m48 ((wrap .i64 (s_1.1+1),wrap .i64 (s.1+1)),(s_1.1,wrap .i64 (s.1+1)),r_4.1,r_4.2.1,
 r_4.2.2)).bind fun r_9=>((idxM x.1.2.2.1 (wrap .i64 (wrap .i64 (wrap .i64 (s.1+1)*wrap .i64 (x.1.1+1))+wrap IntKind.i64
 (s_1.1+1)))).bind fun r=>some r).bind fun (ov_2:Int)=>(m48 ((s_1.1,wrap .i64 (s.1+1)),(s_1.1,s.1),r_4.1,r_4.2.1,r_4.2.2)).bind fun r_10
 => ((idxM x.1.2.2.1 (wrap .i64 (wrap .i64 (wrap .i64 (s.1+1)*wrap .i64 (x.1.1+1))+s_1.1))).bind fun r=>some r).bind fun
 (ov_3:Int)=>(m48 ((s_1.1,s.1),(wrap .i64 (s_1.1+1),wrap .i64 (s.1+1)),r_4.1,r_4.2.1,r_4.2.2)).bind fun r=>some (wrap IntKind.i64
 (wrap .i64 (wrap .i64 (0+wrap .i64 (ov_1*r_9))+wrap .i64 (ov_2*r_10))+wrap .i64 (ov_3*r)))).bind fun (ov_1 :
 Int)=>(((idxM x.1.2.2.1 (wrap .i64 (wrap .i64 (s.1*wrap .i64 (x.1.1+1))+s_1.1))).bind fun r=>some r).bind fun (ov_2:Int) =>
 (m48 ((wrap .i64 (s_1.1+1),wrap .i64 (s.1+1)),(s_1.1,wrap .i64 (s.1+1)),r_6.1,r_6.2.1,r_6.2.2)).bind fun r_9=>((idxM
 x.1.2.2.1 (wrap .i64 (wrap .i64 (wrap .i64 (s.1+1)*wrap .i64 (x.1.1+1))+wrap .i64 (s_1.1+1)))).bind fun r=>some
 r).bind fun (ov_3:Int)=>(m48 ((s_1.1,wrap .i64 (s.1+1)),(s_1.1,s.1),r_6.1,r_6.2.1,r_6.2.2)).bind fun r_10=>((idxM x.1.2.2.1 (wrap
 IntKind.i64 (wrap .i64 (wrap .i64 (s.1+1)*wrap .i64 (x.1.1+1))+s_1.1))).bind fun r=>some r).bind fun (ov_4:Int)=>(m48
 ((s_1.1,s.1),(wrap .i64 (s_1.1+1),wrap .i64 (s.1+1)),r_6.1,r_6.2.1,r_6.2.2)).bind fun r=>some (wrap .i64 (wrap IntKind.i64
 (wrap .i64 (0+wrap .i64 (ov_2*r_9))+wrap .i64 (ov_3*r_10))+wrap .i64 (ov_4*r)))).bind fun (ov_2:Int)=>(((idxM
 x.1.2.2.1 (wrap .i64 (wrap .i64 (s.1*wrap .i64 (x.1.1+1))+s_1.1))).bind fun r=>some r).bind fun (ov_3:Int)=>(m48 ((wrap
 IntKind.i64 (s_1.1+1),wrap .i64 (s.1+1)),(s_1.1,wrap .i64 (s.1+1)),r_8.1,r_8.2.1,r_8.2.2)).bind fun r_9=>((idxM x.1.2.2.1 (wrap
 IntKind.i64 (wrap .i64 (wrap .i64 (s.1+1)*wrap .i64 (x.1.1+1))+wrap .i64 (s_1.1+1)))).bind fun r=>some r).bind fun
 (ov_4:Int)=>(m48 ((s_1.1,wrap .i64 (s.1+1)),(s_1.1,s.1),r_8.1,r_8.2.1,r_8.2.2)).bind fun r_10=>((idxM x.1.2.2.1 (wrap .i64 (wrap
 IntKind.i64 (wrap .i64 (s.1+1)*wrap .i64 (x.1.1+1))+s_1.1))).bind fun r=>some r).bind fun (ov_5:Int)=>(m48 ((s_1.1,s.1),(wrap
 IntKind.i64 (s_1.1+1),wrap .i64 (s.1+1)),r_8.1,r_8.2.1,r_8.2.2)).bind fun r=>some (wrap .i64 (wrap .i64 (wrap .i64 (0 +
 wrap .i64 (ov_3*r_9))+wrap .i64 (ov_4*r_10))+wrap .i64 (ov_5*r)))).bind fun (ov_3:Int)=>(m25F (wrap .i64 (wrap
 IntKind.i64 (wrap .i64 (wrap .i64 (r_4.1*wrap .i64 (wrap .i64 (r_6.2.1*r_8.2.2)-wrap .i64 (r_6.2.2*r_8.2.1))) -
 wrap .i64 (r_4.2.1*wrap .i64 (wrap .i64 (r_6.1*r_8.2.2)-wrap .i64 (r_6.2.2*r_8.1))))+wrap .i64 (r_4.2.2*wrap
 IntKind.i64 (wrap .i64 (r_6.1*r_8.2.1)-wrap .i64 (r_6.2.1*r_8.1))))*wrap .i64 (wrap .i64 (wrap .i64 (wrap
 IntKind.i64 (ov_1*r_6.2.2)*r_8.2.2)+wrap .i64 (wrap .i64 (ov_2*r_4.2.2)*r_8.2.2))+wrap .i64 (wrap .i64 (ov_3 *
 r_4.2.2)*r_6.2.2))),wrap .i64 (wrap .i64 (6*wrap .i64 (wrap .i64 (r_4.2.2*r_6.2.2)*r_8.2.2))*wrap .i64 (wrap
 IntKind.i64 (r_4.2.2*r_6.2.2)*r_8.2.2)))).bind fun r_9=>(m49F ((s_2.2.1,s_2.2.2),r_9.1.1,r_9.1.2)).bind fun r=>some (Sum.inl (wrap IntKind.i64
 (s_2.1+1),r.1.1,r.1.2)) else some (Sum.inr (s_2.2.1,s_2.2.2))) (2,o_2.1,o_2.2)).bind fun o=>some (Sum.inl (wrap .i64 (s_1.1+1),o.1,o.2))
 else some (Sum.inr (s_1.2.1,s_1.2.2))) (0,s.2.1,s.2.2)).bind fun o=>some (Sum.inl (wrap .i64 (s.1+1),o.1,o.2)) else some (Sum.inr (s.2.1,
 s.2.2))) (0,r_2.1.1,r_2.1.2)).bind fun o=>some (o.1,o.2)).bind fun (ov_1:List UInt8×List UInt8)=>((m25F (0,1)).bind fun r_2=>(loopF (fun (s :
 Int×List UInt8×List UInt8)=>bif ltM s.1 x.1.2.1 then (loopF (fun (s_1:Int×List UInt8×List UInt8)=>bif ltM s_1.1 x.1.1 then ((loopF (fun (s_2 :
 Int×List (Int×Int×Int))=>bif ltM s_2.1 (lenM o) then ((chkM s_2.1 (lenM o)).bind fun r_3=>(idxM o s_2.1).bind fun r_4=>(remM (wrap IntKind.i64
 (s_2.1+1)) (lenM o)).bind fun r_5=>(chkM r_5 (lenM o)).bind fun r_6=>(idxM o r_5).bind fun r_7=>(m48 ((s_1.1,s.1),(wrap .i64 (s_1.1+1),
 s.1),r_4.1,r_4.2.1,r_4.2.2)).bind fun r_8=>(m48 ((s_1.1,s.1),(wrap .i64 (s_1.1+1),s.1),r_7.1,r_7.2.1,r_7.2.2)).bind fun r_9=>(bif leM 0
 r_8 then ((bif PE.notM (eqM (lenM s_2.2) 0) then chkM (wrap .i64 (lenM s_2.2-1)) (lenM s_2.2) else some ()).bind fun r_10=>(bif PE.notM (eqM (lenM
 s_2.2) 0) then idxM s_2.2 (wrap .i64 (lenM s_2.2-1)) else some (0,0,0)).bind fun r_11=>bif PE.orM (eqM (lenM s_2.2) 0) (PE.notM (PE.andM (eqM
 r_11.1 r_4.1) (PE.andM (eqM r_11.2.1 r_4.2.1) (eqM r_11.2.2 r_4.2.2)))) then (appM (nat_lit 24) s_2.2 [(r_4.1,r_4.2.1,r_4.2.2)]).bind fun r=>some r else
 some s_2.2).bind fun (ov:List (Int×Int×Int))=>some ov else some s_2.2).bind fun o_1=>bif PE.orM (PE.andM (ltM 0 r_8) (ltM r_9 0)) (PE.andM (ltM r_8
 0) (ltM 0 r_9)) then (m72F (wrap .i64 (wrap .i64 (r_4.1*r_9)-wrap .i64 (r_7.1*r_8)),wrap .i64 (wrap .i64 (r_4.2.1 *
 r_9)-wrap .i64 (r_7.2.1*r_8)),wrap .i64 (wrap .i64 (r_4.2.2*r_9)-wrap .i64 (r_7.2.2*r_8)))).bind fun r_10=>((bif
 PE.notM (eqM (lenM o_1) 0) then chkM (wrap .i64 (lenM o_1-1)) (lenM o_1) else some ()).bind fun r_11=>(bif PE.notM (eqM (lenM o_1) 0) then idxM o_1
 (wrap .i64 (lenM o_1-1)) else some (0,0,0)).bind fun r_12=>bif PE.orM (eqM (lenM o_1) 0) (PE.notM (PE.andM (eqM r_12.1 r_10.1) (PE.andM (eqM
 r_12.2.1 r_10.2.1) (eqM r_12.2.2 r_10.2.2)))) then (appM (nat_lit 24) o_1 [(r_10.1,r_10.2.1,r_10.2.2)]).bind fun r=>some r else some o_1).bind fun (ov :
 List (Int×Int×Int))=>some ov else some o_1).bind fun o=>some (Sum.inl (wrap .i64 (s_2.1+1),o)) else some (Sum.inr s_2.2)) (0,[])).bind fun
 o_1=>bif eqM (lenM o_1) 0 then some o_1 else (loopF (fun (s_2:Int×List (Int×Int×Int))=>bif ltM s_2.1 (lenM o_1) then ((chkM s_2.1 (lenM o_1)).bind
 fun r_3=>(idxM o_1 s_2.1).bind fun r_4=>(remM (wrap .i64 (s_2.1+1)) (lenM o_1)).bind fun r_5=>(chkM r_5 (lenM o_1)).bind fun r_6=>(idxM o_1
 r_5).bind fun r_7=>(m48 ((wrap .i64 (s_1.1+1),s.1),(wrap .i64 (s_1.1+1),wrap .i64 (s.1+1)),r_4.1,r_4.2.1,r_4.2.2)).bind fun
 r_8=>(m48 ((wrap .i64 (s_1.1+1),s.1),(wrap .i64 (s_1.1+1),wrap .i64 (s.1+1)),r_7.1,r_7.2.1,r_7.2.2)).bind fun r_9=>(bif
 leM 0 r_8 then ((bif PE.notM (eqM (lenM s_2.2) 0) then chkM (wrap .i64 (lenM s_2.2-1)) (lenM s_2.2) else some ()).bind fun r_10=>(bif PE.notM (eqM
 (lenM s_2.2) 0) then idxM s_2.2 (wrap .i64 (lenM s_2.2-1)) else some (0,0,0)).bind fun r_11=>bif PE.orM (eqM (lenM s_2.2) 0) (PE.notM (PE.andM
 (eqM r_11.1 r_4.1) (PE.andM (eqM r_11.2.1 r_4.2.1) (eqM r_11.2.2 r_4.2.2)))) then (appM (nat_lit 24) s_2.2 [(r_4.1,r_4.2.1,r_4.2.2)]).bind fun r=>some r
 else some s_2.2).bind fun (ov:List (Int×Int×Int))=>some ov else some s_2.2).bind fun o_2=>bif PE.orM (PE.andM (ltM 0 r_8) (ltM r_9 0)) (PE.andM (ltM
 r_8 0) (ltM 0 r_9)) then (m72F (wrap .i64 (wrap .i64 (r_4.1*r_9)-wrap .i64 (r_7.1*r_8)),wrap .i64 (wrap IntKind.i64
 (r_4.2.1*r_9)-wrap .i64 (r_7.2.1*r_8)),wrap .i64 (wrap .i64 (r_4.2.2*r_9)-wrap .i64 (r_7.2.2*r_8)))).bind fun r_10 =>
 ((bif PE.notM (eqM (lenM o_2) 0) then chkM (wrap .i64 (lenM o_2-1)) (lenM o_2) else some ()).bind fun r_11=>(bif PE.notM (eqM (lenM o_2) 0) then
 idxM o_2 (wrap .i64 (lenM o_2-1)) else some (0,0,0)).bind fun r_12=>bif PE.orM (eqM (lenM o_2) 0) (PE.notM (PE.andM (eqM r_12.1 r_10.1) (PE.andM
 (eqM r_12.2.1 r_10.2.1) (eqM r_12.2.2 r_10.2.2)))) then (appM (nat_lit 24) o_2 [(r_10.1,r_10.2.1,r_10.2.2)]).bind fun r=>some r else some o_2).bind fun
 (ov:List (Int×Int×Int))=>some ov else some o_2).bind fun o=>some (Sum.inl (wrap .i64 (s_2.1+1),o)) else some (Sum.inr s_2.2)) (0,
 [])).bind fun o_2=>bif eqM (lenM o_2) 0 then some o_2 else (loopF (fun (s_2:Int×List (Int×Int×Int))=>bif ltM s_2.1 (lenM o_2) then ((chkM s_2.1
 (lenM o_2)).bind fun r_3=>(idxM o_2 s_2.1).bind fun r_4=>(remM (wrap .i64 (s_2.1+1)) (lenM o_2)).bind fun r_5=>(chkM r_5 (lenM o_2)).bind fun
 r_6=>(idxM o_2 r_5).bind fun r_7=>(m48 ((wrap .i64 (s_1.1+1),wrap .i64 (s.1+1)),(s_1.1,s.1),r_4.1,r_4.2.1,r_4.2.2)).bind fun r_8
 => (m48 ((wrap .i64 (s_1.1+1),wrap .i64 (s.1+1)),(s_1.1,s.1),r_7.1,r_7.2.1,r_7.2.2)).bind fun r_9=>(bif leM 0 r_8 then ((bif PE.notM
 (eqM (lenM s_2.2) 0) then chkM (wrap .i64 (lenM s_2.2-1)) (lenM s_2.2) else some ()).bind fun r_10=>(bif PE.notM (eqM (lenM s_2.2) 0) then idxM
 s_2.2 (wrap .i64 (lenM s_2.2-1)) else some (0,0,0)).bind fun r_11=>bif PE.orM (eqM (lenM s_2.2) 0) (PE.notM (PE.andM (eqM r_11.1 r_4.1) (PE.andM
 (eqM r_11.2.1 r_4.2.1) (eqM r_11.2.2 r_4.2.2)))) then (appM (nat_lit 24) s_2.2 [(r_4.1,r_4.2.1,r_4.2.2)]).bind fun r=>some r else some s_2.2).bind fun (ov
 : List (Int×Int×Int))=>some ov else some s_2.2).bind fun o_3=>bif PE.orM (PE.andM (ltM 0 r_8) (ltM r_9 0)) (PE.andM (ltM r_8 0) (ltM 0 r_9)) then
 (m72F (wrap .i64 (wrap .i64 (r_4.1*r_9)-wrap .i64 (r_7.1*r_8)),wrap .i64 (wrap .i64 (r_4.2.1*r_9)-wrap
 IntKind.i64 (r_7.2.1*r_8)),wrap .i64 (wrap .i64 (r_4.2.2*r_9)-wrap .i64 (r_7.2.2*r_8)))).bind fun r_10=>((bif PE.notM (eqM
 (lenM o_3) 0) then chkM (wrap .i64 (lenM o_3-1)) (lenM o_3) else some ()).bind fun r_11=>(bif PE.notM (eqM (lenM o_3) 0) then idxM o_3 (wrap
 IntKind.i64 (lenM o_3-1)) else some (0,0,0)).bind fun r_12=>bif PE.orM (eqM (lenM o_3) 0) (PE.notM (PE.andM (eqM r_12.1 r_10.1) (PE.andM (eqM r_12.2.1
 r_10.2.1) (eqM r_12.2.2 r_10.2.2)))) then (appM (nat_lit 24) o_3 [(r_10.1,r_10.2.1,r_10.2.2)]).bind fun r=>some r else some o_3).bind fun (ov:List (Int
 × Int×Int))=>some ov else some o_3).bind fun o=>some (Sum.inl (wrap .i64 (s_2.1+1),o)) else some (Sum.inr s_2.2)) (0,[])).bind fun o=>bif
 eqM (lenM o) 0 then some o else some o).bind fun o_1=>(loopF (fun (s_2:Int×List UInt8×List UInt8)=>bif ltM s_2.1 (lenM o_1) then (chkM 0 (lenM
 o_1)).bind fun r_3=>(idxM o_1 0).bind fun r_4=>(chkM (wrap .i64 (s_2.1-1)) (lenM o_1)).bind fun r_5=>(idxM o_1 (wrap .i64 (s_2.1 -
 1))).bind fun r_6=>(chkM s_2.1 (lenM o_1)).bind fun r_7=>(idxM o_1 s_2.1).bind fun r_8=>(((idxM x.1.2.2.2 (wrap .i64 (wrap .i64 (s.1 *
 wrap .i64 (x.1.1+1))+s_1.1))).bind fun r=>some r).bind fun (ov_2:Int)=>(m48 ((wrap .i64 (s_1.1+1),s.1),(wrap .i64 (s_1.1 +
 1),wrap .i64 (s.1+1)),r_4.1,r_4.2.1,r_4.2.2)).bind fun r_9=>((idxM x.1.2.2.2 (wrap .i64 (wrap .i64 (s.1*wrap .i64 (x.1.1
 + 1))+wrap .i64 (s_1.1+1)))).bind fun r=>some r).bind fun (ov_3:Int)=>(m48 ((wrap .i64 (s_1.1+1),wrap .i64 (s.1+1)),
 (s_1.1,s.1),r_4.1,r_4.2.1,r_4.2.2)).bind fun r_10=>((idxM x.1.2.2.2 (wrap .i64 (wrap .i64 (wrap .i64 (s.1+1)*wrap IntKind.i64
 (x.1.1+1))+wrap .i64 (s_1.1+1)))).bind fun r=>some r).bind fun (ov_4:Int)=>(m48 ((s_1.1,s.1),(wrap .i64 (s_1.1+1),s.1),r_4.1,
 r_4.2.1,r_4.2.2)).bind fun r=>some (wrap .i64 (wrap .i64 (wrap .i64 (0+wrap .i64 (ov_2*r_9))+wrap .i64 (ov_3 *
 r_10))+wrap .i64 (ov_4*r)))).bind fun (ov_2:Int)=>(((idxM x.1.2.2.2 (wrap .i64 (wrap .i64 (s.1*wrap .i64 (x.1.1+1)) +
 s_1.1))).bind fun r=>some r).bind fun (ov_3:Int)=>(m48 ((wrap .i64 (s_1.1+1),s.1),(wrap .i64 (s_1.1+1),wrap .i64 (s.1+1)),
 r_6.1,r_6.2.1,r_6.2.2)).bind fun r_9=>((idxM x.1.2.2.2 (wrap .i64 (wrap .i64 (s.1*wrap .i64 (x.1.1+1))+wrap .i64 (s_1.1
 + 1)))).bind fun r=>some r).bind fun (ov_4:Int)=>(m48 ((wrap .i64 (s_1.1+1),wrap .i64 (s.1+1)),(s_1.1,s.1),r_6.1,r_6.2.1,
 r_6.2.2)).bind fun r_10=>((idxM x.1.2.2.2 (wrap .i64 (wrap .i64 (wrap .i64 (s.1+1)*wrap .i64 (x.1.1+1))+wrap IntKind.i64
 (s_1.1+1)))).bind fun r=>some r).bind fun (ov_5:Int)=>(m48 ((s_1.1,s.1),(wrap .i64 (s_1.1+1),s.1),r_6.1,r_6.2.1,r_6.2.2)).bind fun r =>
 some (wrap .i64 (wrap .i64 (wrap .i64 (0+wrap .i64 (ov_3*r_9))+wrap .i64 (ov_4*r_10))+wrap .i64 (ov_5 *
 r)))).bind fun (ov_3:Int)=>(((idxM x.1.2.2.2 (wrap .i64 (wrap .i64 (s.1*wrap .i64 (x.1.1+1))+s_1.1))).bind fun r=>some
 r).bind fun (ov_4:Int)=>(m48 ((wrap .i64 (s_1.1+1),s.1),(wrap .i64 (s_1.1+1),wrap .i64 (s.1+1)),r_8.1,r_8.2.1,
 r_8.2.2)).bind fun r_9=>((idxM x.1.2.2.2 (wrap .i64 (wrap .i64 (s.1*wrap .i64 (x.1.1+1))+wrap .i64 (s_1.1+1)))).bind fun
 r=>some r).bind fun (ov_5:Int)=>(m48 ((wrap .i64 (s_1.1+1),wrap .i64 (s.1+1)),(s_1.1,s.1),r_8.1,r_8.2.1,r_8.2.2)).bind fun r_10
 => ((idxM x.1.2.2.2 (wrap .i64 (wrap .i64 (wrap .i64 (s.1+1)*wrap .i64 (x.1.1+1))+wrap .i64 (s_1.1+1)))).bind fun
 r=>some r).bind fun (ov_6:Int)=>(m48 ((s_1.1,s.1),(wrap .i64 (s_1.1+1),s.1),r_8.1,r_8.2.1,r_8.2.2)).bind fun r=>some (wrap IntKind.i64
 (wrap .i64 (wrap .i64 (0+wrap .i64 (ov_4*r_9))+wrap .i64 (ov_5*r_10))+wrap .i64 (ov_6*r)))).bind fun (ov_4 :
 Int)=>(m25F (wrap .i64 (wrap .i64 (wrap .i64 (wrap .i64 (r_4.1*wrap .i64 (wrap .i64 (r_6.2.1*r_8.2.2)-wrap
 IntKind.i64 (r_6.2.2*r_8.2.1)))-wrap .i64 (r_4.2.1*wrap .i64 (wrap .i64 (r_6.1*r_8.2.2)-wrap .i64 (r_6.2.2*r_8.1)))) +
 wrap .i64 (r_4.2.2*wrap .i64 (wrap .i64 (r_6.1*r_8.2.1)-wrap .i64 (r_6.2.1*r_8.1))))*wrap .i64 (wrap IntKind.i64
 (wrap .i64 (wrap .i64 (ov_2*r_6.2.2)*r_8.2.2)+wrap .i64 (wrap .i64 (ov_3*r_4.2.2)*r_8.2.2))+wrap .i64 (wrap
 IntKind.i64 (ov_4*r_4.2.2)*r_6.2.2))),wrap .i64 (wrap .i64 (6*wrap .i64 (wrap .i64 (r_4.2.2*r_6.2.2)*r_8.2.2))*wrap
 IntKind.i64 (wrap .i64 (r_4.2.2*r_6.2.2)*r_8.2.2)))).bind fun r_9=>(m49F ((s_2.2.1,s_2.2.2),r_9.1.1,r_9.1.2)).bind fun r=>some (Sum.inl
 (wrap .i64 (s_2.1+1),r.1.1,r.1.2)) else some (Sum.inr (s_2.2.1,s_2.2.2))) (2,s_1.2.1,s_1.2.2)).bind fun o_2=>((loopF (fun (s_2:Int×List
 (Int×Int×Int))=>bif ltM s_2.1 (lenM o) then ((chkM s_2.1 (lenM o)).bind fun r_3=>(idxM o s_2.1).bind fun r_4=>(remM (wrap .i64 (s_2.1+1))
 (lenM o)).bind fun r_5=>(chkM r_5 (lenM o)).bind fun r_6=>(idxM o r_5).bind fun r_7=>(m48 ((s_1.1,s.1),(wrap .i64 (s_1.1+1),wrap IntKind.i64
 (s.1+1)),r_4.1,r_4.2.1,r_4.2.2)).bind fun r_8=>(m48 ((s_1.1,s.1),(wrap .i64 (s_1.1+1),wrap .i64 (s.1+1)),r_7.1,r_7.2.1,
 r_7.2.2)).bind fun r_9=>(bif leM 0 r_8 then ((bif PE.notM (eqM (lenM s_2.2) 0) then chkM (wrap .i64 (lenM s_2.2-1)) (lenM s_2.2) else some ()).bind
 fun r_10=>(bif PE.notM (eqM (lenM s_2.2) 0) then idxM s_2.2 (wrap .i64 (lenM s_2.2-1)) else some (0,0,0)).bind fun r_11=>bif PE.orM (eqM (lenM
 s_2.2) 0) (PE.notM (PE.andM (eqM r_11.1 r_4.1) (PE.andM (eqM r_11.2.1 r_4.2.1) (eqM r_11.2.2 r_4.2.2)))) then (appM (nat_lit 24) s_2.2 [(r_4.1,r_4.2.1,
 r_4.2.2)]).bind fun r=>some r else some s_2.2).bind fun (ov:List (Int×Int×Int))=>some ov else some s_2.2).bind fun o_3=>bif PE.orM (PE.andM (ltM 0
 r_8) (ltM r_9 0)) (PE.andM (ltM r_8 0) (ltM 0 r_9)) then (m72F (wrap .i64 (wrap .i64 (r_4.1*r_9)-wrap .i64 (r_7.1*r_8)),wrap
 IntKind.i64 (wrap .i64 (r_4.2.1*r_9)-wrap .i64 (r_7.2.1*r_8)),wrap .i64 (wrap .i64 (r_4.2.2*r_9)-wrap IntKind.i64
 (r_7.2.2*r_8)))).bind fun r_10=>((bif PE.notM (eqM (lenM o_3) 0) then chkM (wrap .i64 (lenM o_3-1)) (lenM o_3) else some ()).bind fun r_11 =>
 (bif PE.notM (eqM (lenM o_3) 0) then idxM o_3 (wrap .i64 (lenM o_3-1)) else some (0,0,0)).bind fun r_12=>bif PE.orM (eqM (lenM o_3) 0) (PE.notM
 (PE.andM (eqM r_12.1 r_10.1) (PE.andM (eqM r_12.2.1 r_10.2.1) (eqM r_12.2.2 r_10.2.2)))) then (appM (nat_lit 24) o_3 [(r_10.1,r_10.2.1,r_10.2.2)]).bind fun
 r=>some r else some o_3).bind fun (ov:List (Int×Int×Int))=>some ov else some o_3).bind fun o=>some (Sum.inl (wrap .i64 (s_2.1+1),o))
 else some (Sum.inr s_2.2)) (0,[])).bind fun o_3=>bif eqM (lenM o_3) 0 then some o_3 else (loopF (fun (s_2:Int×List (Int×Int×Int))=>bif ltM s_2.1
 (lenM o_3) then ((chkM s_2.1 (lenM o_3)).bind fun r_3=>(idxM o_3 s_2.1).bind fun r_4=>(remM (wrap .i64 (s_2.1+1)) (lenM o_3)).bind fun r_5 =>
 (chkM r_5 (lenM o_3)).bind fun r_6=>(idxM o_3 r_5).bind fun r_7=>(m48 ((wrap .i64 (s_1.1+1),wrap .i64 (s.1+1)),(s_1.1,wrap
 IntKind.i64 (s.1+1)),r_4.1,r_4.2.1,r_4.2.2)).bind fun r_8=>(m48 ((wrap .i64 (s_1.1+1),wrap .i64 (s.1+1)),(s_1.1,wrap IntKind.i64
 (s.1+1)),r_7.1,r_7.2.1,r_7.2.2)).bind fun r_9=>(bif leM 0 r_8 then ((bif PE.notM (eqM (lenM s_2.2) 0) then chkM (wrap .i64 (lenM s_2.2-1))
 (lenM s_2.2) else some ()).bind fun r_10=>(bif PE.notM (eqM (lenM s_2.2) 0) then idxM s_2.2 (wrap .i64 (lenM s_2.2-1)) else some (0,0,0)).bind
 fun r_11=>bif PE.orM (eqM (lenM s_2.2) 0) (PE.notM (PE.andM (eqM r_11.1 r_4.1) (PE.andM (eqM r_11.2.1 r_4.2.1) (eqM r_11.2.2 r_4.2.2)))) then (appM (nat_lit
 24) s_2.2 [(r_4.1,r_4.2.1,r_4.2.2)]).bind fun r=>some r else some s_2.2).bind fun (ov:List (Int×Int×Int))=>some ov else some s_2.2).bind fun o_4
 => bif PE.orM (PE.andM (ltM 0 r_8) (ltM r_9 0)) (PE.andM (ltM r_8 0) (ltM 0 r_9)) then (m72F (wrap .i64 (wrap .i64 (r_4.1*r_9)-wrap
 IntKind.i64 (r_7.1*r_8)),wrap .i64 (wrap .i64 (r_4.2.1*r_9)-wrap .i64 (r_7.2.1*r_8)),wrap .i64 (wrap IntKind.i64
 (r_4.2.2*r_9)-wrap .i64 (r_7.2.2*r_8)))).bind fun r_10=>((bif PE.notM (eqM (lenM o_4) 0) then chkM (wrap .i64 (lenM o_4-1)) (lenM o_4)
 else some ()).bind fun r_11=>(bif PE.notM (eqM (lenM o_4) 0) then idxM o_4 (wrap .i64 (lenM o_4-1)) else some (0,0,0)).bind fun r_12=>bif
 PE.orM (eqM (lenM o_4) 0) (PE.notM (PE.andM (eqM r_12.1 r_10.1) (PE.andM (eqM r_12.2.1 r_10.2.1) (eqM r_12.2.2 r_10.2.2)))) then (appM (nat_lit 24) o_4
 [(r_10.1,r_10.2.1,r_10.2.2)]).bind fun r=>some r else some o_4).bind fun (ov:List (Int×Int×Int))=>some ov else some o_4).bind fun o=>some
 (Sum.inl (wrap .i64 (s_2.1+1),o)) else some (Sum.inr s_2.2)) (0,[])).bind fun o_4=>bif eqM (lenM o_4) 0 then some o_4 else (loopF (fun (s_2:Int
 × List (Int×Int×Int))=>bif ltM s_2.1 (lenM o_4) then ((chkM s_2.1 (lenM o_4)).bind fun r_3=>(idxM o_4 s_2.1).bind fun r_4=>(remM (wrap IntKind.i64
 (s_2.1+1)) (lenM o_4)).bind fun r_5=>(chkM r_5 (lenM o_4)).bind fun r_6=>(idxM o_4 r_5).bind fun r_7=>(m48 ((s_1.1,wrap .i64 (s.1+1)),
 (s_1.1,s.1),r_4.1,r_4.2.1,r_4.2.2)).bind fun r_8=>(m48 ((s_1.1,wrap .i64 (s.1+1)),(s_1.1,s.1),r_7.1,r_7.2.1,r_7.2.2)).bind fun r_9 =>
 (bif leM 0 r_8 then ((bif PE.notM (eqM (lenM s_2.2) 0) then chkM (wrap .i64 (lenM s_2.2-1)) (lenM s_2.2) else some ()).bind fun r_10=>(bif PE.notM
 (eqM (lenM s_2.2) 0) then idxM s_2.2 (wrap .i64 (lenM s_2.2-1)) else some (0,0,0)).bind fun r_11=>bif PE.orM (eqM (lenM s_2.2) 0) (PE.notM
 (PE.andM (eqM r_11.1 r_4.1) (PE.andM (eqM r_11.2.1 r_4.2.1) (eqM r_11.2.2 r_4.2.2)))) then (appM (nat_lit 24) s_2.2 [(r_4.1,r_4.2.1,r_4.2.2)]).bind fun r =>
 some r else some s_2.2).bind fun (ov:List (Int×Int×Int))=>some ov else some s_2.2).bind fun o_5=>bif PE.orM (PE.andM (ltM 0 r_8) (ltM r_9 0))
 (PE.andM (ltM r_8 0) (ltM 0 r_9)) then (m72F (wrap .i64 (wrap .i64 (r_4.1*r_9)-wrap .i64 (r_7.1*r_8)),wrap .i64 (wrap
 IntKind.i64 (r_4.2.1*r_9)-wrap .i64 (r_7.2.1*r_8)),wrap .i64 (wrap .i64 (r_4.2.2*r_9)-wrap .i64 (r_7.2.2*r_8)))).bind
 fun r_10=>((bif PE.notM (eqM (lenM o_5) 0) then chkM (wrap .i64 (lenM o_5-1)) (lenM o_5) else some ()).bind fun r_11=>(bif PE.notM (eqM (lenM
 o_5) 0) then idxM o_5 (wrap .i64 (lenM o_5-1)) else some (0,0,0)).bind fun r_12=>bif PE.orM (eqM (lenM o_5) 0) (PE.notM (PE.andM (eqM r_12.1
 r_10.1) (PE.andM (eqM r_12.2.1 r_10.2.1) (eqM r_12.2.2 r_10.2.2)))) then (appM (nat_lit 24) o_5 [(r_10.1,r_10.2.1,r_10.2.2)]).bind fun r=>some r else some
 o_5).bind fun (ov:List (Int×Int×Int))=>some ov else some o_5).bind fun o=>some (Sum.inl (wrap .i64 (s_2.1+1),o)) else some (Sum.inr
 s_2.2)) (0,[])).bind fun o=>bif eqM (lenM o) 0 then some o else some o).bind fun o_3=>(loopF (fun (s_2:Int×List UInt8×List UInt8)=>bif ltM s_2.1
 (lenM o_3) then (chkM 0 (lenM o_3)).bind fun r_3=>(idxM o_3 0).bind fun r_4=>(chkM (wrap .i64 (s_2.1-1)) (lenM o_3)).bind fun r_5=>(idxM o_3
 (wrap .i64 (s_2.1-1))).bind fun r_6=>(chkM s_2.1 (lenM o_3)).bind fun r_7=>(idxM o_3 s_2.1).bind fun r_8=>(((idxM x.1.2.2.2 (wrap IntKind.i64
 (wrap .i64 (s.1*wrap .i64 (x.1.1+1))+s_1.1))).bind fun r=>some r).bind fun (ov_2:Int)=>(m48 ((wrap .i64 (s_1.1+1),wrap
 IntKind.i64 (s.1+1)),(s_1.1,wrap .i64 (s.1+1)),r_4.1,r_4.2.1,r_4.2.2)).bind fun r_9=>((idxM x.1.2.2.2 (wrap .i64 (wrap IntKind.i64
 (wrap .i64 (s.1+1)*wrap .i64 (x.1.1+1))+wrap .i64 (s_1.1+1)))).bind fun r=>some r).bind fun (ov_3:Int)=>(m48 ((s_1.1,
 wrap .i64 (s.1+1)),(s_1.1,s.1),r_4.1,r_4.2.1,r_4.2.2)).bind fun r_10=>((idxM x.1.2.2.2 (wrap .i64 (wrap .i64 (wrap IntKind.i64
 (s.1+1)*wrap .i64 (x.1.1+1))+s_1.1))).bind fun r=>some r).bind fun (ov_4:Int)=>(m48 ((s_1.1,s.1),(wrap .i64 (s_1.1+1),wrap
 IntKind.i64 (s.1+1)),r_4.1,r_4.2.1,r_4.2.2)).bind fun r=>some (wrap .i64 (wrap .i64 (wrap .i64 (0+wrap .i64 (ov_2*r_9))
 + wrap .i64 (ov_3*r_10))+wrap .i64 (ov_4*r)))).bind fun (ov_2:Int)=>(((idxM x.1.2.2.2 (wrap .i64 (wrap .i64 (s.1*wrap
 IntKind.i64 (x.1.1+1))+s_1.1))).bind fun r=>some r).bind fun (ov_3:Int)=>(m48 ((wrap .i64 (s_1.1+1),wrap .i64 (s.1+1)),(s_1.1,
 wrap .i64 (s.1+1)),r_6.1,r_6.2.1,r_6.2.2)).bind fun r_9=>((idxM x.1.2.2.2 (wrap .i64 (wrap .i64 (wrap .i64 (s.1+1)*wrap
 IntKind.i64 (x.1.1+1))+wrap .i64 (s_1.1+1)))).bind fun r=>some r).bind fun (ov_4:Int)=>(m48 ((s_1.1,wrap .i64 (s.1+1)),(s_1.1,
 s.1),r_6.1,r_6.2.1,r_6.2.2)).bind fun r_10=>((idxM x.1.2.2.2 (wrap .i64 (wrap .i64 (wrap .i64 (s.1+1)*wrap .i64 (x.1.1 +
 1))+s_1.1))).bind fun r=>some r).bind fun (ov_5:Int)=>(m48 ((s_1.1,s.1),(wrap .i64 (s_1.1+1),wrap .i64 (s.1+1)),r_6.1,r_6.2.1,
 r_6.2.2)).bind fun r=>some (wrap .i64 (wrap .i64 (wrap .i64 (0+wrap .i64 (ov_3*r_9))+wrap .i64 (ov_4*r_10)) +
 wrap .i64 (ov_5*r)))).bind fun (ov_3:Int)=>(((idxM x.1.2.2.2 (wrap .i64 (wrap .i64 (s.1*wrap .i64 (x.1.1+1)) +
 s_1.1))).bind fun r=>some r).bind fun (ov_4:Int)=>(m48 ((wrap .i64 (s_1.1+1),wrap .i64 (s.1+1)),(s_1.1,wrap .i64 (s.1+1)),
 r_8.1,r_8.2.1,r_8.2.2)).bind fun r_9=>((idxM x.1.2.2.2 (wrap .i64 (wrap .i64 (wrap .i64 (s.1+1)*wrap .i64 (x.1.1+1)) +
 wrap .i64 (s_1.1+1)))).bind fun r=>some r).bind fun (ov_5:Int)=>(m48 ((s_1.1,wrap .i64 (s.1+1)),(s_1.1,s.1),r_8.1,r_8.2.1,
 r_8.2.2)).bind fun r_10=>((idxM x.1.2.2.2 (wrap .i64 (wrap .i64 (wrap .i64 (s.1+1)*wrap .i64 (x.1.1+1))+s_1.1))).bind
 fun r=>some r).bind fun (ov_6:Int)=>(m48 ((s_1.1,s.1),(wrap .i64 (s_1.1+1),wrap .i64 (s.1+1)),r_8.1,r_8.2.1,r_8.2.2)).bind fun r
 => some (wrap .i64 (wrap .i64 (wrap .i64 (0+wrap .i64 (ov_4*r_9))+wrap .i64 (ov_5*r_10))+wrap .i64 (ov_6 *
 r)))).bind fun (ov_4:Int)=>(m25F (wrap .i64 (wrap .i64 (wrap .i64 (wrap .i64 (r_4.1*wrap .i64 (wrap IntKind.i64
 (r_6.2.1*r_8.2.2)-wrap .i64 (r_6.2.2*r_8.2.1)))-wrap .i64 (r_4.2.1*wrap .i64 (wrap .i64 (r_6.1*r_8.2.2)-wrap
 IntKind.i64 (r_6.2.2*r_8.1))))+wrap .i64 (r_4.2.2*wrap .i64 (wrap .i64 (r_6.1*r_8.2.1)-wrap .i64 (r_6.2.1*r_8.1)))) *
 wrap .i64 (wrap .i64 (wrap .i64 (wrap .i64 (ov_2*r_6.2.2)*r_8.2.2)+wrap .i64 (wrap .i64 (ov_3*r_4.2.2) *
 r_8.2.2))+wrap .i64 (wrap .i64 (ov_4*r_4.2.2)*r_6.2.2))),wrap .i64 (wrap .i64 (6*wrap .i64 (wrap IntKind.i64
 (r_4.2.2*r_6.2.2)*r_8.2.2))*wrap .i64 (wrap .i64 (r_4.2.2*r_6.2.2)*r_8.2.2)))).bind fun r_9=>(m49F ((s_2.2.1,s_2.2.2),r_9.1.1,
 r_9.1.2)).bind fun r=>some (Sum.inl (wrap .i64 (s_2.1+1),r.1.1,r.1.2)) else some (Sum.inr (s_2.2.1,s_2.2.2))) (2,o_2.1,o_2.2)).bind fun o =>
 some (Sum.inl (wrap .i64 (s_1.1+1),o.1,o.2)) else some (Sum.inr (s_1.2.1,s_1.2.2))) (0,s.2.1,s.2.2)).bind fun o=>some (Sum.inl (wrap
 IntKind.i64 (s.1+1),o.1,o.2)) else some (Sum.inr (s.2.1,s.2.2))) (0,r_2.1.1,r_2.1.2)).bind fun o=>some (o.1,o.2)).bind fun (ov:List UInt8×List
 UInt8)=>some ((ov_1.1,ov_1.2),(ov.1,ov.2),0)
theorem le17 (x):Le (m17F x) (m17 x):=by
 unfold m17F m17
 repeat' first | with_reducible exact le25 _ | with_reducible exact le28 _ | with_reducible exact le31 _ | with_reducible exact le49 _ | with_reducible exact le72 _ | with_reducible exact Le.refl _ | intro _ | apply Le.bind | apply Le.cond | apply Le.nil | apply Le.loop | apply Le.elim
def m18F:((Int×Int×List Int×List Int)×Int)→Option ((List UInt8×List UInt8)×(List UInt8×List UInt8)×Int) :=
 fun x=>(m31F (x.1.1,x.1.2.1,x.1.2.2.1,x.1.2.2.2)).bind fun r=>(bif PE.notM (PE.notM r) then m36 (x.2,0,100) else some false).bind fun r_1=>bif PE.orM
 (PE.notM r) (PE.notM r_1) then some (([],[]),([],[]),250) else ((m25F (0,1)).bind fun r_2=>(loopF (fun (s:Int×List UInt8×List UInt8)=>bif ltM
 s.1 x.1.2.1 then (loopF (fun (s_1:Int×List UInt8×List UInt8)=>bif ltM s_1.1 x.1.1 then (((idxM x.1.2.2.1 (wrap .i64 (wrap .i64 (s.1 *
 wrap .i64 (x.1.1+1))+s_1.1))).bind fun r=>some r).bind fun (ov:Int)=>((idxM x.1.2.2.1 (wrap .i64 (wrap .i64 (s.1*wrap
 IntKind.i64 (x.1.1+1))+wrap .i64 (s_1.1+1)))).bind fun r=>some r).bind fun (ov_1:Int)=>((idxM x.1.2.2.1 (wrap .i64 (wrap IntKind.i64
 (wrap .i64 (s.1+1)*wrap .i64 (x.1.1+1))+wrap .i64 (s_1.1+1)))).bind fun r=>some r).bind fun (ov_2:Int)=>(sortI [ov,ov_1,
 ov_2]).bind fun r_3=>(chkM 0 (lenM r_3)).bind fun r_4=>(idxM r_3 0).bind fun r_5=>bif ltM x.2 r_5 then (m25F (1,2)).bind fun r_6=>(m49F ((s_1.2.1,
 s_1.2.2),r_6.1.1,r_6.1.2)).bind fun r=>some (r.1.1,r.1.2) else (chkM 1 (lenM r_3)).bind fun r_6=>(idxM r_3 1).bind fun r_7=>bif ltM x.2 r_7 then
 (m25F (1,2)).bind fun r_8=>(m49F ((s_1.2.1,s_1.2.2),r_8.1.1,r_8.1.2)).bind fun r_9=>(chkM 0 (lenM r_3)).bind fun r_10=>(idxM r_3 0).bind fun r_11 =>
 (chkM 0 (lenM r_3)).bind fun r_12=>(idxM r_3 0).bind fun r_13=>(chkM 1 (lenM r_3)).bind fun r_14=>(idxM r_3 1).bind fun r_15=>(chkM 0 (lenM r_3)).bind
 fun r_16=>(idxM r_3 0).bind fun r_17=>(chkM 2 (lenM r_3)).bind fun r_18=>(idxM r_3 2).bind fun r_19=>(chkM 0 (lenM r_3)).bind fun r_20=>(idxM r_3
 0).bind fun r_21=>(m25F (wrap .i64 (wrap .i64 (negM (wrap .i64 (x.2-r_11)))*wrap .i64 (x.2-r_13)),wrap .i64 (wrap
 IntKind.i64 (2*wrap .i64 (r_15-r_17))*wrap .i64 (r_19-r_21)))).bind fun r_22=>(m49F ((r_9.1.1,r_9.1.2),r_22.1.1,r_22.1.2)).bind fun
 r=>some (r.1.1,r.1.2) else (chkM 2 (lenM r_3)).bind fun r_8=>(idxM r_3 2).bind fun r_9=>bif ltM x.2 r_9 then (chkM 2 (lenM r_3)).bind fun r_10=>(idxM
 r_3 2).bind fun r_11=>(chkM 2 (lenM r_3)).bind fun r_12=>(idxM r_3 2).bind fun r_13=>(chkM 2 (lenM r_3)).bind fun r_14=>(idxM r_3 2).bind fun r_15 =>
 (chkM 0 (lenM r_3)).bind fun r_16=>(idxM r_3 0).bind fun r_17=>(chkM 2 (lenM r_3)).bind fun r_18=>(idxM r_3 2).bind fun r_19=>(chkM 1 (lenM r_3)).bind
 fun r_20=>(idxM r_3 1).bind fun r_21=>(m25F (wrap .i64 (wrap .i64 (r_11-x.2)*wrap .i64 (r_13-x.2)),wrap .i64 (wrap
 IntKind.i64 (2*wrap .i64 (r_15-r_17))*wrap .i64 (r_19-r_21)))).bind fun r_22=>(m49F ((s_1.2.1,s_1.2.2),r_22.1.1,r_22.1.2)).bind fun
 r=>some (r.1.1,r.1.2) else some (s_1.2.1,s_1.2.2)).bind fun o=>(((idxM x.1.2.2.1 (wrap .i64 (wrap .i64 (s.1*wrap .i64 (x.1.1 +
 1))+s_1.1))).bind fun r=>some r).bind fun (ov:Int)=>((idxM x.1.2.2.1 (wrap .i64 (wrap .i64 (wrap .i64 (s.1+1)*wrap
 IntKind.i64 (x.1.1+1))+wrap .i64 (s_1.1+1)))).bind fun r=>some r).bind fun (ov_1:Int)=>((idxM x.1.2.2.1 (wrap .i64 (wrap IntKind.i64
 (wrap .i64 (s.1+1)*wrap .i64 (x.1.1+1))+s_1.1))).bind fun r=>some r).bind fun (ov_2:Int)=>(sortI [ov,ov_1,ov_2]).bind fun r_3 =>
 (chkM 0 (lenM r_3)).bind fun r_4=>(idxM r_3 0).bind fun r_5=>bif ltM x.2 r_5 then (m25F (1,2)).bind fun r_6=>(m49F ((o.1,o.2),r_6.1.1,r_6.1.2)).bind
 fun r=>some (r.1.1,r.1.2) else (chkM 1 (lenM r_3)).bind fun r_6=>(idxM r_3 1).bind fun r_7=>bif ltM x.2 r_7 then (m25F (1,2)).bind fun r_8=>(m49F
 ((o.1,o.2),r_8.1.1,r_8.1.2)).bind fun r_9=>(chkM 0 (lenM r_3)).bind fun r_10=>(idxM r_3 0).bind fun r_11=>(chkM 0 (lenM r_3)).bind fun r_12=>(idxM
 r_3 0).bind fun r_13=>(chkM 1 (lenM r_3)).bind fun r_14=>(idxM r_3 1).bind fun r_15=>(chkM 0 (lenM r_3)).bind fun r_16=>(idxM r_3 0).bind fun r_17 =>
 (chkM 2 (lenM r_3)).bind fun r_18=>(idxM r_3 2).bind fun r_19=>(chkM 0 (lenM r_3)).bind fun r_20=>(idxM r_3 0).bind fun r_21=>(m25F (wrap IntKind.i64
 (wrap .i64 (negM (wrap .i64 (x.2-r_11)))*wrap .i64 (x.2-r_13)),wrap .i64 (wrap .i64 (2*wrap .i64 (r_15 -
 r_17))*wrap .i64 (r_19-r_21)))).bind fun r_22=>(m49F ((r_9.1.1,r_9.1.2),r_22.1.1,r_22.1.2)).bind fun r=>some (r.1.1,r.1.2) else (chkM 2
 (lenM r_3)).bind fun r_8=>(idxM r_3 2).bind fun r_9=>bif ltM x.2 r_9 then (chkM 2 (lenM r_3)).bind fun r_10=>(idxM r_3 2).bind fun r_11=>(chkM 2 (lenM
 r_3)).bind fun r_12=>(idxM r_3 2).bind fun r_13=>(chkM 2 (lenM r_3)).bind fun r_14=>(idxM r_3 2).bind fun r_15=>(chkM 0 (lenM r_3)).bind fun r_16 =>
 (idxM r_3 0).bind fun r_17=>(chkM 2 (lenM r_3)).bind fun r_18=>(idxM r_3 2).bind fun r_19=>(chkM 1 (lenM r_3)).bind fun r_20=>(idxM r_3 1).bind fun
 r_21=>(m25F (wrap .i64 (wrap .i64 (r_11-x.2)*wrap .i64 (r_13-x.2)),wrap .i64 (wrap .i64 (2*wrap IntKind.i64
 (r_15-r_17))*wrap .i64 (r_19-r_21)))).bind fun r_22=>(m49F ((o.1,o.2),r_22.1.1,r_22.1.2)).bind fun r=>some (r.1.1,r.1.2) else some (o.1,
 o.2)).bind fun o=>some (Sum.inl (wrap .i64 (s_1.1+1),o.1,o.2)) else some (Sum.inr (s_1.2.1,s_1.2.2))) (0,s.2.1,s.2.2)).bind fun o=>some
 (Sum.inl (wrap .i64 (s.1+1),o.1,o.2)) else some (Sum.inr (s.2.1,s.2.2))) (0,r_2.1.1,r_2.1.2)).bind fun o=>some (o.1,o.2)).bind fun (ov:List
 UInt8×List UInt8)=>((m25F (0,1)).bind fun r_2=>(loopF (fun (s:Int×List UInt8×List UInt8)=>bif ltM s.1 x.1.2.1 then (loopF (fun (s_1:Int ×
 List UInt8×List UInt8)=>bif ltM s_1.1 x.1.1 then (((idxM x.1.2.2.2 (wrap .i64 (wrap .i64 (s.1*wrap .i64 (x.1.1+1)) +
 s_1.1))).bind fun r=>some r).bind fun (ov_1:Int)=>((idxM x.1.2.2.2 (wrap .i64 (wrap .i64 (s.1*wrap .i64 (x.1.1+1))+wrap
 IntKind.i64 (s_1.1+1)))).bind fun r=>some r).bind fun (ov_2:Int)=>((idxM x.1.2.2.2 (wrap .i64 (wrap .i64 (wrap .i64 (s.1+1) *
 wrap .i64 (x.1.1+1))+wrap .i64 (s_1.1+1)))).bind fun r=>some r).bind fun (ov_3:Int)=>(sortI [ov_1,ov_2,ov_3]).bind fun r_3 =>
 (chkM 0 (lenM r_3)).bind fun r_4=>(idxM r_3 0).bind fun r_5=>bif ltM x.2 r_5 then (m25F (1,2)).bind fun r_6=>(m49F ((s_1.2.1,s_1.2.2),r_6.1.1,
 r_6.1.2)).bind fun r=>some (r.1.1,r.1.2) else (chkM 1 (lenM r_3)).bind fun r_6=>(idxM r_3 1).bind fun r_7=>bif ltM x.2 r_7 then (m25F (1,2)).bind fun
 r_8=>(m49F ((s_1.2.1,s_1.2.2),r_8.1.1,r_8.1.2)).bind fun r_9=>(chkM 0 (lenM r_3)).bind fun r_10=>(idxM r_3 0).bind fun r_11=>(chkM 0 (lenM
 r_3)).bind fun r_12=>(idxM r_3 0).bind fun r_13=>(chkM 1 (lenM r_3)).bind fun r_14=>(idxM r_3 1).bind fun r_15=>(chkM 0 (lenM r_3)).bind fun r_16 =>
 (idxM r_3 0).bind fun r_17=>(chkM 2 (lenM r_3)).bind fun r_18=>(idxM r_3 2).bind fun r_19=>(chkM 0 (lenM r_3)).bind fun r_20=>(idxM r_3 0).bind fun
 r_21=>(m25F (wrap .i64 (wrap .i64 (negM (wrap .i64 (x.2-r_11)))*wrap .i64 (x.2-r_13)),wrap .i64 (wrap IntKind.i64
 (2*wrap .i64 (r_15-r_17))*wrap .i64 (r_19-r_21)))).bind fun r_22=>(m49F ((r_9.1.1,r_9.1.2),r_22.1.1,r_22.1.2)).bind fun r=>some
 (r.1.1,r.1.2) else (chkM 2 (lenM r_3)).bind fun r_8=>(idxM r_3 2).bind fun r_9=>bif ltM x.2 r_9 then (chkM 2 (lenM r_3)).bind fun r_10=>(idxM r_3
 2).bind fun r_11=>(chkM 2 (lenM r_3)).bind fun r_12=>(idxM r_3 2).bind fun r_13=>(chkM 2 (lenM r_3)).bind fun r_14=>(idxM r_3 2).bind fun r_15 =>
 (chkM 0 (lenM r_3)).bind fun r_16=>(idxM r_3 0).bind fun r_17=>(chkM 2 (lenM r_3)).bind fun r_18=>(idxM r_3 2).bind fun r_19=>(chkM 1 (lenM r_3)).bind
 fun r_20=>(idxM r_3 1).bind fun r_21=>(m25F (wrap .i64 (wrap .i64 (r_11-x.2)*wrap .i64 (r_13-x.2)),wrap .i64 (wrap
 IntKind.i64 (2*wrap .i64 (r_15-r_17))*wrap .i64 (r_19-r_21)))).bind fun r_22=>(m49F ((s_1.2.1,s_1.2.2),r_22.1.1,r_22.1.2)).bind fun
 r=>some (r.1.1,r.1.2) else some (s_1.2.1,s_1.2.2)).bind fun o=>(((idxM x.1.2.2.2 (wrap .i64 (wrap .i64 (s.1*wrap .i64 (x.1.1 +
 1))+s_1.1))).bind fun r=>some r).bind fun (ov_1:Int)=>((idxM x.1.2.2.2 (wrap .i64 (wrap .i64 (wrap .i64 (s.1+1)*wrap
 IntKind.i64 (x.1.1+1))+wrap .i64 (s_1.1+1)))).bind fun r=>some r).bind fun (ov_2:Int)=>((idxM x.1.2.2.2 (wrap .i64 (wrap IntKind.i64
 (wrap .i64 (s.1+1)*wrap .i64 (x.1.1+1))+s_1.1))).bind fun r=>some r).bind fun (ov_3:Int)=>(sortI [ov_1,ov_2,ov_3]).bind fun r_3
 => (chkM 0 (lenM r_3)).bind fun r_4=>(idxM r_3 0).bind fun r_5=>bif ltM x.2 r_5 then (m25F (1,2)).bind fun r_6=>(m49F ((o.1,o.2),r_6.1.1,
 r_6.1.2)).bind fun r=>some (r.1.1,r.1.2) else (chkM 1 (lenM r_3)).bind fun r_6=>(idxM r_3 1).bind fun r_7=>bif ltM x.2 r_7 then (m25F (1,2)).bind fun
 r_8=>(m49F ((o.1,o.2),r_8.1.1,r_8.1.2)).bind fun r_9=>(chkM 0 (lenM r_3)).bind fun r_10=>(idxM r_3 0).bind fun r_11=>(chkM 0 (lenM r_3)).bind fun
 r_12=>(idxM r_3 0).bind fun r_13=>(chkM 1 (lenM r_3)).bind fun r_14=>(idxM r_3 1).bind fun r_15=>(chkM 0 (lenM r_3)).bind fun r_16=>(idxM r_3
 0).bind fun r_17=>(chkM 2 (lenM r_3)).bind fun r_18=>(idxM r_3 2).bind fun r_19=>(chkM 0 (lenM r_3)).bind fun r_20=>(idxM r_3 0).bind fun r_21 =>
 (m25F (wrap .i64 (wrap .i64 (negM (wrap .i64 (x.2-r_11)))*wrap .i64 (x.2-r_13)),wrap .i64 (wrap .i64 (2 *
 wrap .i64 (r_15-r_17))*wrap .i64 (r_19-r_21)))).bind fun r_22=>(m49F ((r_9.1.1,r_9.1.2),r_22.1.1,r_22.1.2)).bind fun r=>some
 (r.1.1,r.1.2) else (chkM 2 (lenM r_3)).bind fun r_8=>(idxM r_3 2).bind fun r_9=>bif ltM x.2 r_9 then (chkM 2 (lenM r_3)).bind fun r_10=>(idxM r_3
 2).bind fun r_11=>(chkM 2 (lenM r_3)).bind fun r_12=>(idxM r_3 2).bind fun r_13=>(chkM 2 (lenM r_3)).bind fun r_14=>(idxM r_3 2).bind fun r_15 =>
 (chkM 0 (lenM r_3)).bind fun r_16=>(idxM r_3 0).bind fun r_17=>(chkM 2 (lenM r_3)).bind fun r_18=>(idxM r_3 2).bind fun r_19=>(chkM 1 (lenM r_3)).bind
 fun r_20=>(idxM r_3 1).bind fun r_21=>(m25F (wrap .i64 (wrap .i64 (r_11-x.2)*wrap .i64 (r_13-x.2)),wrap .i64 (wrap
 IntKind.i64 (2*wrap .i64 (r_15-r_17))*wrap .i64 (r_19-r_21)))).bind fun r_22=>(m49F ((o.1,o.2),r_22.1.1,r_22.1.2)).bind fun r =>
 some (r.1.1,r.1.2) else some (o.1,o.2)).bind fun o=>some (Sum.inl (wrap .i64 (s_1.1+1),o.1,o.2)) else some (Sum.inr (s_1.2.1,s_1.2.2))) (0,
 s.2.1,s.2.2)).bind fun o=>some (Sum.inl (wrap .i64 (s.1+1),o.1,o.2)) else some (Sum.inr (s.2.1,s.2.2))) (0,r_2.1.1,r_2.1.2)).bind fun o =>
 some (o.1,o.2)).bind fun (ov_1:List UInt8×List UInt8)=>some ((ov.1,ov.2),(ov_1.1,ov_1.2),0)
theorem le18 (x):Le (m18F x) (m18 x):=by
 unfold m18F m18
 repeat' first | with_reducible exact le25 _ | with_reducible exact le31 _ | with_reducible exact le49 _ | with_reducible exact Le.refl _ | intro _ | apply Le.bind | apply Le.cond | apply Le.nil | apply Le.loop | apply Le.elim
def m35F:(Int×Int×List Int×List Int)→Option ((Int×Int×List Int×List Int)×Int) :=
 fun x=>(m31F (x.1,x.2.1,x.2.2.1,x.2.2.2)).bind fun r=>bif PE.notM r then some ((0,0,[],[]),250) else some ((x.1,x.2.1,x.2.2.1,x.2.2.2),0)
theorem le35 (x):Le (m35F x) (m35 x):=by
 unfold m35F m35
 repeat' first | with_reducible exact le31 _ | with_reducible exact Le.refl _ | intro _ | apply Le.bind | apply Le.cond | apply Le.nil | apply Le.loop | apply Le.elim
def m11F:(Int×Int×List Int×List Int)→Option ((Int×Int×List Int×List Int)×Int) :=
 fun x=>(m31F (x.1,x.2.1,x.2.2.1,x.2.2.2)).bind fun r=>bif PE.notM r then some ((0,0,[],[]),250) else ((loopF (fun (s:Int×List Int)=>bif ltM s.1
 (wrap .i64 (wrap .i64 (2*x.2.1)+1)) then (loopF (fun (s_1:Int×List Int)=>bif ltM s_1.1 (wrap .i64 (wrap .i64 (2*x.1) +
 1)) then (divM .i64 s_1.1 2).bind fun r_1=>(divM .i64 s.1 2).bind fun r_2=>(idxM x.2.2.1 (wrap .i64 (wrap .i64 (r_2*wrap
 IntKind.i64 (x.1+1))+r_1))).bind fun r_3=>(divM .i64 (wrap .i64 (s_1.1+1)) 2).bind fun r_4=>(divM .i64 (wrap .i64 (s.1 +
 1)) 2).bind fun r_5=>(idxM x.2.2.1 (wrap .i64 (wrap .i64 (r_5*wrap .i64 (x.1+1))+r_4))).bind fun r_6=>(appM (nat_lit 8) s_1.2
 [wrap .i64 (r_3+r_6)]).bind fun r=>some (Sum.inl (wrap .i64 (s_1.1+1),r)) else some (Sum.inr s_1.2)) (0,s.2)).bind fun o=>some
 (Sum.inl (wrap .i64 (s.1+1),o)) else some (Sum.inr s.2)) (0,[])).bind fun o=>some o).bind fun (ov:List Int)=>((loopF (fun (s:Int×List
 Int)=>bif ltM s.1 (wrap .i64 (wrap .i64 (2*x.2.1)+1)) then (loopF (fun (s_1:Int×List Int)=>bif ltM s_1.1 (wrap .i64 (wrap
 IntKind.i64 (2*x.1)+1)) then (divM .i64 s_1.1 2).bind fun r_1=>(divM .i64 s.1 2).bind fun r_2=>(idxM x.2.2.2 (wrap .i64 (wrap
 IntKind.i64 (r_2*wrap .i64 (x.1+1))+r_1))).bind fun r_3=>(divM .i64 (wrap .i64 (s_1.1+1)) 2).bind fun r_4=>(divM IntKind.i64
 (wrap .i64 (s.1+1)) 2).bind fun r_5=>(idxM x.2.2.2 (wrap .i64 (wrap .i64 (r_5*wrap .i64 (x.1+1))+r_4))).bind fun r_6 =>
 (appM (nat_lit 8) s_1.2 [wrap .i64 (r_3+r_6)]).bind fun r=>some (Sum.inl (wrap .i64 (s_1.1+1),r)) else some (Sum.inr s_1.2)) (0,
 s.2)).bind fun o=>some (Sum.inl (wrap .i64 (s.1+1),o)) else some (Sum.inr s.2)) (0,[])).bind fun o=>some o).bind fun (ov_1:List Int)=>(m35F
 (wrap .i64 (2*x.1),wrap .i64 (2*x.2.1),ov,ov_1)).bind fun r=>some ((r.1.1,r.1.2.1,r.1.2.2.1,r.1.2.2.2),r.2)
theorem le11 (x):Le (m11F x) (m11 x):=by
 unfold m11F m11
 repeat' first | with_reducible exact le31 _ | with_reducible exact le35 _ | with_reducible exact Le.refl _ | intro _ | apply Le.bind | apply Le.cond | apply Le.nil | apply Le.loop | apply Le.elim
def m20F:((Int×Int×List Int×List Int)×Int×Int×List Int×List Int)→Option ((Int×Int×List Int×List Int)×Int) :=
 fun x=>(m31F (x.1.1,x.1.2.1,x.1.2.2.1,x.1.2.2.2)).bind fun r=>(bif PE.notM (PE.notM r) then m31F (x.2.1,x.2.2.1,x.2.2.2.1,x.2.2.2.2) else some
 false).bind fun r_1=>bif PE.orM (PE.orM (PE.orM (PE.notM r) (PE.notM r_1)) (PE.notM (eqM x.1.1 x.2.1))) (PE.notM (eqM x.1.2.1 x.2.2.1)) then some ((0,0,
 [],[]),250) else (mo54 x.1.2.2.1).bind fun r_2=>(mo54 x.1.2.2.2).bind fun r_3=>(loopF (fun (s:Int×List Int×List Int)=>bif ltM s.1 (lenM r_2)
 then (chkM s.1 (lenM s.2.1)).bind fun r_4=>(idxM s.2.1 s.1).bind fun r_5=>(idxM x.2.2.2.1 s.1).bind fun r_6=>(chkM s.1 (lenM s.2.1)).bind fun r_7 =>
 (setM s.2.1 s.1 fun (x:Int)=>some (wrap .i64 (r_5+r_6))).bind fun r_8=>(chkM s.1 (lenM s.2.2)).bind fun r_9=>(idxM s.2.2 s.1).bind fun r_10
 => (idxM x.2.2.2.2 s.1).bind fun r_11=>(chkM s.1 (lenM s.2.2)).bind fun r_12=>(setM s.2.2 s.1 fun (x:Int)=>some (wrap .i64 (r_10+r_11))).bind
 fun r=>some (Sum.inl (wrap .i64 (s.1+1),r_8,r)) else some (Sum.inr (s.2.1,s.2.2))) (0,r_2,r_3)).bind fun o=>(m35F (x.1.1,x.1.2.1,o.1,
 o.2)).bind fun r=>some ((r.1.1,r.1.2.1,r.1.2.2.1,r.1.2.2.2),r.2)
theorem le20 (x):Le (m20F x) (m20 x):=by
 unfold m20F m20
 repeat' first | with_reducible exact le31 _ | with_reducible exact le35 _ | with_reducible exact Le.refl _ | intro _ | apply Le.bind | apply Le.cond | apply Le.nil | apply Le.loop | apply Le.elim
def m21F:((Int×Int×List Int×List Int)×Int)→Option ((Int×Int×List Int×List Int)×Int) :=
 fun x=>(m31F (x.1.1,x.1.2.1,x.1.2.2.1,x.1.2.2.2)).bind fun r=>(bif PE.notM (PE.notM r) then m36 (x.2,0,100) else some false).bind fun r_1=>bif PE.orM
 (PE.notM r) (PE.notM r_1) then some ((0,0,[],[]),250) else (mo54 x.1.2.2.1).bind fun r_2=>(mo54 x.1.2.2.2).bind fun r_3=>(loopF (fun (s:Int×List
 Int×List Int)=>bif ltM s.1 (lenM r_2) then (chkM s.1 (lenM s.2.1)).bind fun r_4=>(idxM s.2.1 s.1).bind fun r_5=>(chkM s.1 (lenM s.2.1)).bind fun r_6
 => (setM s.2.1 s.1 fun (x_1:Int)=>some (wrap .i64 (r_5*x.2))).bind fun r_7=>(chkM s.1 (lenM s.2.2)).bind fun r_8=>(idxM s.2.2 s.1).bind fun
 r_9=>(chkM s.1 (lenM s.2.2)).bind fun r_10=>(setM s.2.2 s.1 fun (x_1:Int)=>some (wrap .i64 (r_9*x.2))).bind fun r=>some (Sum.inl (wrap
 IntKind.i64 (s.1+1),r_7,r)) else some (Sum.inr (s.2.1,s.2.2))) (0,r_2,r_3)).bind fun o=>(m35F (x.1.1,x.1.2.1,o.1,o.2)).bind fun r=>some ((r.1.1,
 r.1.2.1,r.1.2.2.1,r.1.2.2.2),r.2)
theorem le21 (x):Le (m21F x) (m21 x):=by
 unfold m21F m21
 repeat' first | with_reducible exact le31 _ | with_reducible exact le35 _ | with_reducible exact Le.refl _ | intro _ | apply Le.bind | apply Le.cond | apply Le.nil | apply Le.loop | apply Le.elim
def m29F:((Int×Int×List Int×List Int)×Int×Int×List Int×List Int)→Option (List Int×Int) :=
 fun x=>(m31F (x.1.1,x.1.2.1,x.1.2.2.1,x.1.2.2.2)).bind fun r=>(bif PE.notM (PE.notM r) then m31F (x.2.1,x.2.2.1,x.2.2.2.1,x.2.2.2.2) else some
 false).bind fun r_1=>bif PE.orM (PE.orM (PE.orM (PE.notM r) (PE.notM r_1)) (PE.notM (eqM x.1.1 x.2.1))) (PE.notM (eqM x.1.2.1 x.2.2.1)) then some ([],250)
 else (mkM (lenM x.1.2.2.1) (lenM x.1.2.2.1) (nat_lit 8) 0).bind fun r_2=>(loopF (fun (s:Int×List Int)=>bif ltM s.1 (lenM r_2) then ((idxM x.1.2.2.1
 s.1).bind fun r_3=>(idxM x.1.2.2.2 s.1).bind fun r_4=>(idxM x.2.2.2.1 s.1).bind fun r_5=>(idxM x.2.2.2.2 s.1).bind fun r_6=>bif ltM (min r_4 r_6) (max
 r_3 r_5) then (chkM s.1 (lenM s.2)).bind fun r_7=>(setM s.2 s.1 fun (x:Int)=>some 2).bind fun r=>some r else bif PE.orM (PE.notM (PE.andM (eqM r_3
 r_5) (eqM r_4 r_6))) (PE.notM (eqM r_3 r_4)) then (chkM s.1 (lenM s.2)).bind fun r_7=>(setM s.2 s.1 fun (x:Int)=>some 1).bind fun r=>some r else some
 s.2).bind fun o=>some (Sum.inl (wrap .i64 (s.1+1),o)) else some (Sum.inr s.2)) (0,r_2)).bind fun o=>some (o,0)
theorem le29 (x):Le (m29F x) (m29 x):=by
 unfold m29F m29
 repeat' first | with_reducible exact le31 _ | with_reducible exact Le.refl _ | intro _ | apply Le.bind | apply Le.cond | apply Le.nil | apply Le.loop | apply Le.elim
def m30F:(List Int×List Int)→Option (Bool) :=
 fun x=>bif PE.notM (eqM (lenM x.1) (lenM x.2)) then some false else (loopF (fun (s:Int)=>bif ltM s (lenM x.1) then (idxM x.1 s).bind fun r=>(idxM x.2
 s).bind fun r_1=>bif PE.notM (eqM r r_1) then some (Sum.inr (Sum.inr false)) else some (Sum.inl (wrap .i64 (s+1))) else some (Sum.inr (Sum.inl
 ()))) 0).bind fun o=>Sum.elim (fun (t:Unit)=>some true) (fun (t:Bool)=>some t) o
theorem le30 (x):Le (m30F x) (m30 x):=by
 unfold m30F m30
 repeat' first | with_reducible exact Le.refl _ | intro _ | apply Le.bind | apply Le.cond | apply Le.nil | apply Le.loop | apply Le.elim
def m9F:Unit→Option (Bool) :=
 fun x=>(m13F ((1,1,[0,6,12,6],[0,6,12,6]),1,1,2)).bind fun r=>(m13F ((1,1,[0,6,12,6],[0,6,12,6]),1,3,4)).bind fun r_1=>(m13F ((1,
 1,[0,6,12,6],[0,6,12,6]),3,0,2)).bind fun r_2=>(m14F (1,1,[0,6,12,6],[0,6,12,6])).bind fun r_3=>(m16 (0,0)).bind fun r_4=>(m16 (1,
 0)).bind fun r_5=>(m16 (0,1)).bind fun r_6=>(m17F ((1,1,[0,6,12,6],[0,6,12,6]),[(r_4.1,r_4.2),(r_5.1,r_5.2),(r_6.1,r_6.2)])).bind fun r_7
 => (m16 (0,0)).bind fun r_8=>(m16 (2,0)).bind fun r_9=>(m16 (0,1)).bind fun r_10=>(m17F ((1,1,[0,6,12,6],[0,6,12,6]),[(r_8.1,r_8.2),
 (r_9.1,r_9.2),(r_10.1,r_10.2)])).bind fun r_11=>(m18F ((1,1,[0,6,12,6],[0,6,12,6]),3)).bind fun r_12=>(m18F ((1,1,[0,6,12,6],[0,6,12,
 6]),11)).bind fun r_13=>(m11F (1,1,[0,6,12,6],[0,6,12,6])).bind fun r_14=>(m20F ((1,1,[0,6,12,6],[0,6,12,6]),1,1,[0,6,12,6],[0,
 6,12,6])).bind fun r_15=>(m21F ((1,1,[0,6,12,6],[0,6,12,6]),3)).bind fun r_16=>(m21F ((1,1,[0,6,12,6],[0,6,12,6]),9)).bind fun r_17
 => (m29F ((1,1,[0,6,12,6],[0,6,12,6]),1,1,[0,6,12,6],[0,7,12,6])).bind fun r_18=>bif PE.orM (PE.orM (PE.orM (PE.orM (PE.orM (PE.orM
 (PE.orM (PE.orM (PE.orM (PE.orM (PE.orM (PE.notM (eqM r.2.2 0)) (PE.notM (eqM r_1.2.2 0))) (PE.notM (eqM r_2.2.2 250))) (PE.notM (eqM r_7.2.2 0))) (PE.notM
 (eqM r_11.2.2 250))) (PE.notM (eqM r_12.2.2 0))) (PE.notM (eqM r_13.2.2 0))) (PE.notM (eqM r_14.2 0))) (PE.notM (eqM r_15.2 0))) (PE.notM (eqM r_16.2 0)))
 (PE.notM (eqM r_17.2 250))) (PE.notM (eqM r_18.2 0)) then some false else (m30F (r_14.1.2.2.1,[0,6,12,12,6,12,24,18,12])).bind fun r_19=>(bif r_19
 then m30F (r_14.1.2.2.2,r_14.1.2.2.1) else some false).bind fun r_20=>(bif PE.andM (PE.andM (PE.andM r_19 r_20) (eqM r_14.1.1 2)) (eqM r_14.1.2.1 2) then
 m30F (r_15.1.2.2.2,[0,12,24,12]) else some false).bind fun r_21=>(bif PE.andM (PE.andM (PE.andM (PE.andM r_19 r_20) (eqM r_14.1.1 2)) (eqM r_14.1.2.1
 2)) r_21 then m30F (r_16.1.2.2.1,[0,18,36,18]) else some false).bind fun r_22=>(bif PE.andM (PE.andM (PE.andM (PE.andM (PE.andM (PE.andM (PE.andM (eqM
 r.1 6) (eqM r.2.1 6)) (eqM r_1.1 30)) (eqM r_1.2.1 30)) (eqM r_3.1 30)) (eqM r_3.2 30)) (PE.andM (PE.andM (PE.andM (PE.andM (PE.andM (eqsM r_7.1.1 [(50 :
 UInt8)]) (eqsM r_7.1.2 [(49:UInt8)])) (PE.andM (eqsM r_7.2.1.1 r_7.1.1) (eqsM r_7.2.1.2 r_7.1.2))) (PE.andM (eqsM r_12.1.1 [(49:UInt8),(51:UInt8)])
 (eqsM r_12.1.2 [(49:UInt8),(54:UInt8)]))) (PE.andM (eqsM r_13.1.1 [(49:UInt8)]) (eqsM r_13.1.2 [(49:UInt8),(52:UInt8),(52:UInt8)]))) (PE.andM
 (eqsM r_13.2.1.1 r_13.1.1) (eqsM r_13.2.1.2 r_13.1.2)))) (PE.andM (PE.andM (PE.andM (PE.andM (PE.andM r_19 r_20) (eqM r_14.1.1 2)) (eqM r_14.1.2.1 2)) r_21)
 r_22) then m30F (r_18.1,[0,1,0,0]) else some false).bind fun r_23=>(bif PE.andM (PE.andM (PE.andM (PE.andM (PE.andM (PE.andM (PE.andM (PE.andM (eqM r.1
 6) (eqM r.2.1 6)) (eqM r_1.1 30)) (eqM r_1.2.1 30)) (eqM r_3.1 30)) (eqM r_3.2 30)) (PE.andM (PE.andM (PE.andM (PE.andM (PE.andM (eqsM r_7.1.1 [(50:UInt8)])
 (eqsM r_7.1.2 [(49:UInt8)])) (PE.andM (eqsM r_7.2.1.1 r_7.1.1) (eqsM r_7.2.1.2 r_7.1.2))) (PE.andM (eqsM r_12.1.1 [(49:UInt8),(51:UInt8)]) (eqsM
 r_12.1.2 [(49:UInt8),(54:UInt8)]))) (PE.andM (eqsM r_13.1.1 [(49:UInt8)]) (eqsM r_13.1.2 [(49:UInt8),(52:UInt8),(52:UInt8)]))) (PE.andM (eqsM
 r_13.2.1.1 r_13.1.1) (eqsM r_13.2.1.2 r_13.1.2)))) (PE.andM (PE.andM (PE.andM (PE.andM (PE.andM r_19 r_20) (eqM r_14.1.1 2)) (eqM r_14.1.2.1 2)) r_21) r_22))
 r_23 then m31F (1,1,[0,6,12,6],[0,6,12,6]) else some false).bind fun r_24=>(bif PE.andM (PE.andM (PE.andM (PE.andM (PE.andM (PE.andM (PE.andM
 (PE.andM (PE.andM (eqM r.1 6) (eqM r.2.1 6)) (eqM r_1.1 30)) (eqM r_1.2.1 30)) (eqM r_3.1 30)) (eqM r_3.2 30)) (PE.andM (PE.andM (PE.andM (PE.andM (PE.andM
 (eqsM r_7.1.1 [(50:UInt8)]) (eqsM r_7.1.2 [(49:UInt8)])) (PE.andM (eqsM r_7.2.1.1 r_7.1.1) (eqsM r_7.2.1.2 r_7.1.2))) (PE.andM (eqsM r_12.1.1 [(49 :
 UInt8),(51:UInt8)]) (eqsM r_12.1.2 [(49:UInt8),(54:UInt8)]))) (PE.andM (eqsM r_13.1.1 [(49:UInt8)]) (eqsM r_13.1.2 [(49:UInt8),(52:UInt8),(52
 : UInt8)]))) (PE.andM (eqsM r_13.2.1.1 r_13.1.1) (eqsM r_13.2.1.2 r_13.1.2)))) (PE.andM (PE.andM (PE.andM (PE.andM (PE.andM r_19 r_20) (eqM r_14.1.1 2)) (eqM
 r_14.1.2.1 2)) r_21) r_22)) r_23) r_24 then m31F (0,0,[],[]) else some false).bind fun r_25=>some (PE.andM (PE.andM (PE.andM (PE.andM (PE.andM (PE.andM
 (PE.andM (PE.andM (PE.andM (PE.andM (eqM r.1 6) (eqM r.2.1 6)) (eqM r_1.1 30)) (eqM r_1.2.1 30)) (eqM r_3.1 30)) (eqM r_3.2 30)) (PE.andM (PE.andM (PE.andM
 (PE.andM (PE.andM (eqsM r_7.1.1 [(50:UInt8)]) (eqsM r_7.1.2 [(49:UInt8)])) (PE.andM (eqsM r_7.2.1.1 r_7.1.1) (eqsM r_7.2.1.2 r_7.1.2))) (PE.andM (eqsM
 r_12.1.1 [(49:UInt8),(51:UInt8)]) (eqsM r_12.1.2 [(49:UInt8),(54:UInt8)]))) (PE.andM (eqsM r_13.1.1 [(49:UInt8)]) (eqsM r_13.1.2 [(49:UInt8),
 (52:UInt8),(52:UInt8)]))) (PE.andM (eqsM r_13.2.1.1 r_13.1.1) (eqsM r_13.2.1.2 r_13.1.2)))) (PE.andM (PE.andM (PE.andM (PE.andM (PE.andM r_19 r_20) (eqM
 r_14.1.1 2)) (eqM r_14.1.2.1 2)) r_21) r_22)) r_23) r_24) (PE.notM r_25))
theorem le9 (x):Le (m9F x) (m9 x):=by
 unfold m9F m9
 repeat' first | with_reducible exact le11 _ | with_reducible exact le13 _ | with_reducible exact le14 _ | with_reducible exact le17 _ | with_reducible exact le18 _ | with_reducible exact le20 _ | with_reducible exact le21 _ | with_reducible exact le29 _ | with_reducible exact le30 _ | with_reducible exact le31 _ | with_reducible exact Le.refl _ | intro _ | apply Le.bind | apply Le.cond | apply Le.nil | apply Le.loop | apply Le.elim
end
end Go.Proofs.YtechphmljdgoaaaGreatDoor
namespace Go.Proofs.YtechphmljdgoaaaGreatDoor
open Go Go.Abs Go.PE
set_option maxRecDepth 100000 in
theorem saneF:m9F ()=some true:=by kernel_rfl
theorem sane_ok:m9 ()=some true:=(le9 ()).out saneF
end Go.Proofs.YtechphmljdgoaaaGreatDoor
namespace Go.PE
open Go Go.Abs
def InR:(t:Ty)→t.den→Prop
 | .int k,x=>k.has x
 | .bool,_=>True
 | .str,x=>List.length x≤maxLen
 | .list t,xs=>List.length xs≤maxLen∧∀ (i:Nat) (x:t.den),xs[i]? = some x→InR t x
 | .one t,x=>InR t x
 | .pair a b,x=>InR a x.1∧InR b x.2
def OkT:(l:List Ty)→Tup (l.map .d)→Prop
 | [],_=>True
 | [t],x=>InR t x
 | t::u::r,x=>InR t x.1∧OkT (u::r) x.2
section
variable {S:Cells} {w:World} {η:Eta}
theorem Rep.ok:∀ {t:Ty} {x:t.den} {cs:List Value},Rep S w t x cs→InR t x
 | .int _,_,_,h=>h.2
 | .bool,_,_,_=>trivial
 | .str,_,_,h=>h.2
 | .list t,xs,_,h=>by
  obtain ⟨base,cap,rfl,h1,h2,h3⟩:=h
  refine ⟨Nat.le_trans h1 h2,fun i x hx=>?_⟩
  rcases h3 with h3 | ⟨b,off,_,h3⟩
  ·have:xs=[]:=List.length_eq_zero_iff.1 h3
   rw [this] at hx
   cases hx
  ·obtain ⟨es,h4,_⟩:=h3 i x hx
   exact Rep.ok h4
 | .one t,x,cs,h=>by
  have h':Rep S w t x cs:=h
  exact Rep.ok (t:=t) h'
 | .pair a b,x,cs,h=>by
  obtain ⟨c1,c2,rfl,h1,h2⟩:=h
  exact ⟨Rep.ok h1,Rep.ok h2⟩
theorem cv_ok:∀ {t:Ty} {x:t.den} {vs:List Value},All2 (CM S w η) (t.cv x) vs→InR t x
 | .int _,_,_,.cons h .nil=>let ⟨_,a,_⟩:=h.2;Rep.ok a
 | .bool,_,_,_=>trivial
 | .str,_,_,.cons h .nil=>let ⟨_,a,_⟩:=h.2;Rep.ok a
 | .list _,_,_,.cons h .nil=>let ⟨_,a,_⟩:=h.2;Rep.ok a
 | .one t,x,vs,h=>by
  have h':All2 (CM S w η) (t.cv x) vs:=h
  exact cv_ok (t:=t) h'
 | .pair a b,x,vs,h=>by
  have h':All2 (CM S w η) (a.cv x.1++b.cv x.2) vs:=h
  obtain ⟨b1,b2,rfl,h1,h2⟩:=All2.split h'
  exact ⟨cv_ok h1,cv_ok h2⟩
theorem rv_ok {t:Ty} {x:t.den} {v:Value} (h:RM S w η (t.rv x) v):InR t x:=by
 unfold Ty.rv at h
 split at h
 ·obtain ⟨vs,_,h2⟩:=h
  exact cv_ok h2
 ·obtain ⟨_,cs,h2,_⟩:=h
  exact Rep.ok h2
theorem rvs_ok:∀ {l:List Ty} {x:Tup (l.map .d)} {vs:List Value},All2 (RM S w η) (rvs l x) vs→OkT l x
 | [],_,_,_=>trivial
 | [t],x,_,.cons h .nil=>rv_ok h
 | t::u::r,x,_,h=>by
  have h':All2 (RM S w η) (t.rv x.1::rvs (u::r) x.2) _:=h
  cases h' with
  | cons h1 h2=>exact ⟨rv_ok h1,rvs_ok (l:=u::r) h2⟩
end
theorem law_of_ok {args:List Ty} {m:Tup (args.map .d)→Option Bool} (h:∀ x,OkT args x→m x=some true) :
  ∀ (S:Cells) (w:World) (η:Eta) (vs:List Value) x,All2 (RM S w η) (rvs args x) vs→m x=some true:=fun _ _ _ _ x hx=>h x (rvs_ok hx)

theorem wrap_in {n:Int} (h1:-9223372036854775808≤n) (h2:n≤9223372036854775807):IntKind.wrap .i64 n=n:=Go.IntWalk.i64_in n ⟨h1,h2⟩
theorem idxM_nat {α:Type} (xs:List α) (i:Nat):idxM xs (i:Int)=xs[i]? := by
 unfold idxM
 rw [decide_eq_true (by omega:(0:Int)≤i)]
 simp
theorem idxM_lt {α:Type} {xs:List α} {i:Nat} (h:i<xs.length):idxM xs (i:Int)=some xs[i]:=by
 rw [idxM_nat,List.getElem?_eq_getElem h]
theorem idxM_of {α:Type} {xs:List α} {i:Int} (h0:0≤i) (h:i<xs.length):idxM xs i=some (xs[i.toNat]'(by omega)):=by
 unfold idxM
 rw [decide_eq_true h0]
 exact List.getElem?_eq_getElem _
theorem chkM_of {i n:Int} (h0:0≤i) (h:i<n):chkM i n=some ():=by
 unfold chkM
 rw [decide_eq_true h0,decide_eq_true h]
theorem appM_of {α:Type} {b:Nat} {xs ys:List α} (h:(xs.length+ys.length)*b≤140737488355328):appM b xs ys=some (xs++ys):=by
 unfold appM
 rw [decide_eq_true h]
theorem mkM_of {α:Type} {n c:Int} {b:Nat} {d:α} (h0:0≤n) (h:n≤c) (hb:c*b≤140737488355328):mkM n c b d=some (List.replicate n.toNat d):=by
 unfold mkM
 rw [decide_eq_true h0,decide_eq_true h,decide_eq_true hb]
theorem setM_of {α:Type} {xs:List α} {i:Int} {f:α→Option α} {y:α} (h0:0≤i) (h:i<xs.length) (hy:f (xs[i.toNat]'(by omega))=some y):setM xs i f=some (xs.set i.toNat y):=by
 unfold setM
 rw [idxM_of h0 h]
 simp only [hy]
theorem sliceM_of {α:Type} {xs:List α} {lo hi:Int} (h0:0≤lo) (h:lo≤hi) (h2:hi≤xs.length):sliceM xs lo hi=some ((xs.take hi.toNat).drop lo.toNat):=by
 unfold sliceM
 rw [decide_eq_true h0,decide_eq_true h,decide_eq_true h2]
theorem loopM_inv {σ β:Type} {body:σ→Option (σ⊕β)} (P:Nat→σ→Prop) (Q:β→Prop) (n:Nat)
  (h:∀ k s,k≤n→P k s→(∃ s',k<n∧body s=some (.inl s')∧P (k+1) s')∨∃ r,body s=some (.inr r)∧Q r) :
  ∀ (m k:Nat) (s:σ),n-k=m→k≤n→P k s→∃ r,loopM body s=some r∧Q r:=by
 intro m
 induction m with
 | zero =>
  intro k s hm hk hP
  rcases h k s hk hP with ⟨s',hlt,_⟩ | ⟨r,h1,h2⟩
  ·omega
  ·exact ⟨r,by rw [loopM_eq,h1];rfl,h2⟩
 | succ m ih =>
  intro k s hm hk hP
  rcases h k s hk hP with ⟨s',hlt,h1,h2⟩ | ⟨r,h1,h2⟩
  ·obtain ⟨r,h3,h4⟩:=ih (k+1) s' (by omega) (by omega) h2
   exact ⟨r,by rw [loopM_eq,h1];exact h3,h4⟩
  ·exact ⟨r,by rw [loopM_eq,h1];rfl,h2⟩
theorem loopM_from {σ β:Type} {body:σ→Option (σ⊕β)} (P:Nat→σ→Prop) (Q:β→Prop) (n:Nat) {s:σ} (h0:P 0 s)
  (h:∀ k s,k≤n→P k s→(∃ s',k<n∧body s=some (.inl s')∧P (k+1) s')∨∃ r,body s=some (.inr r)∧Q r):∃ r,loopM body s=some r∧Q r :=
 loopM_inv P Q n h n 0 s (by omega) (by omega) h0
theorem loopM_fn {σ β:Type} {body:σ→Option (σ⊕β)} (g:Nat→σ) (n:Nat) {r:β} (h:∀ k,k<n→body (g k)=some (.inl (g (k+1)))) (he:body (g n)=some (.inr r)):loopM body (g 0)=some r:=by
 obtain ⟨r',h1,h2⟩:=loopM_from (body:=body) (fun k s=>s=g k) (fun x=>x=r) n (s:=g 0) rfl fun k s hk hs=>by
  subst hs
  by_cases hlt:k<n
  ·exact .inl ⟨_,hlt,h k hlt,rfl⟩
  ·have:k=n:=by omega
   subst this
   exact .inr ⟨r,he,rfl⟩
 rw [h1,h2]
end Go.PE
namespace Go.PE
open Go Go.Abs
def row {α:Type} (m:Nat) (g:Nat→α):List α:=(List.range m).map g
def rt {α:Type} (n:Nat) (len:Nat→Nat) (d:Nat→Nat→α):List (List α):=row n fun i=>row (len i) (d i)
def upd {α:Type} (d:Nat→Nat→α) (i j:Nat) (y:α):Nat→Nat→α:=fun a b=>if a=i∧b=j then y else d a b
section
variable {α:Type}
theorem row_length (m:Nat) (g:Nat→α):(row m g).length=m:=by simp [row]
theorem row_get {m:Nat} {g:Nat→α} {i:Nat} (h:i<m):(row m g)[i]? = some (g i):=by simp [row,h]
theorem row_idx {m:Nat} {g:Nat→α} {i:Nat} (h:i<m):idxM (row m g) (i:Int)=some (g i):=by rw [idxM_nat,row_get h]
theorem row_succ (m:Nat) (g:Nat→α):row (m+1) g=row m g++[g m]:=by simp [row,List.range_succ]
end
theorem bind_of {α β:Type} {o:Option α} {x:α} {f:α→Option β} {r:Option β} (h:o=some x) (h2:f x=r):Option.bind o f=r:=by
 rw [h];exact h2
theorem loopM_is {σ β:Type} {body:σ→Option (σ⊕β)} {s:σ} {r:β} (P:Nat→σ→Prop) (n:Nat) (h0:P 0 s)
  (h:∀ k s,k≤n→P k s→(∃ s',k<n∧body s=some (.inl s')∧P (k+1) s')∨body s=some (.inr r)):loopM body s=some r:=by
 obtain ⟨r',h1,h2⟩:=loopM_from P (fun x=>x=r) n h0 fun k s hk hP=>by
  rcases h k s hk hP with h | h
  ·exact .inl h
  ·exact .inr ⟨r,h,rfl⟩
 rw [h1,h2]
theorem count_loop {σ β:Type} {body:Int×σ→Option ((Int×σ)⊕β)} (g:Nat→σ) (n:Nat) {r:β} (h:∀ k,k<n→body ((k:Int),g k)=some (.inl ((k:Int)+1,g (k+1)))) (he:body ((n:Int),g n)=some (.inr r)) :
  loopM body ((0:Int),g 0)=some r :=
 loopM_fn (fun k=>((k:Int),g k)) n (fun k hk=>h k hk) he
end Go.PE
namespace Go.PE
open Go Go.Abs
def Ans {α:Type} (o:Option α) (Q:α→Prop):Prop:=∃ r,o=some r∧Q r
theorem Ans.is {α:Type} {o:Option α} {r:α} (h:Ans o (fun x=>x=r)):o=some r:=by
 obtain ⟨x,h1,h2⟩:=h
 rw [h1,h2]
theorem Ans.of {α:Type} {o:Option α} {r:α} {Q:α→Prop} (h:o=some r) (hQ:Q r):Ans o Q:=⟨r,h,hQ⟩
theorem Ans.some {α:Type} {r:α} {Q:α→Prop} (hQ:Q r):Ans (some r) Q:=⟨r,rfl,hQ⟩
theorem Ans.mono {α:Type} {o:Option α} {P Q:α→Prop} (h:Ans o P) (hQ:∀ x,P x→Q x):Ans o Q:=by
 obtain ⟨x,h1,h2⟩:=h
 exact ⟨x,h1,hQ x h2⟩
theorem Ans.bind {α β:Type} {o:Option α} {f:α→Option β} {P:α→Prop} {Q:β→Prop} (h:Ans o P) (hf:∀ x,P x→Ans (f x) Q):Ans (Option.bind o f) Q:=by
 obtain ⟨x,h1,h2⟩:=h
 rw [h1]
 exact hf x h2
theorem Ans.seq {α β:Type} {o:Option α} {f:α→Option β} {x:α} {Q:β→Prop} (h:o=Option.some x) (hf:Ans (f x) Q):Ans (Option.bind o f) Q:=by
 rw [h]
 exact hf
theorem Ans.cond {α:Type} {c:Bool} {a b:Option α} {Q:α→Prop} (ht:c=true→Ans a Q) (hf:c=false→Ans b Q):Ans (bif c then a else b) Q:=by
 cases c
 ·exact hf rfl
 ·exact ht rfl
def Nxt {σ β:Type} (P:σ→Prop) (Q:β→Prop):σ⊕β→Prop
 | .inl s=>P s
 | .inr r=>Q r
theorem Ans.loop {σ β:Type} {body:σ→Option (σ⊕β)} {s:σ} {Q:β→Prop} (P:Nat→σ→Prop) (n:Nat) (h0:P 0 s)
  (h:∀ k s,k≤n→P k s→Ans (body s) (Nxt (fun s'=>k<n∧P (k+1) s') Q)):Ans (loopM body s) Q:=by
 refine loopM_from P Q n h0 fun k s hk hP=>?_
 obtain ⟨o,h1,h2⟩:=h k s hk hP
 cases o with
 | inl s'=>exact .inl ⟨s',h2.1,h1,h2.2⟩
 | inr r=>exact .inr ⟨r,h1,h2⟩
theorem ltI {a b:Int} (h:a<b):ltM a b=true:=decide_eq_true h
theorem geI {a b:Int} (h:b≤a):ltM a b=false:=decide_eq_false (by omega)
theorem leI {a b:Int} (h:a≤b):leM a b=true:=decide_eq_true h
theorem gtI {a b:Int} (h:b<a):leM a b=false:=decide_eq_false (by omega)
theorem eqI {a b:Int} (h:a=b):eqM a b=true:=decide_eq_true h
theorem neI {a b:Int} (h:a≠b):eqM a b=false:=decide_eq_false h
theorem notT:notM true=false:=rfl
theorem notF:notM false=true:=rfl
theorem orT (b:Bool):orM true b=true:=rfl
theorem orF (b:Bool):orM false b=b:=rfl
theorem andT (b:Bool):andM true b=b:=rfl
theorem andF (b:Bool):andM false b=false:=rfl
def pk (c n:Int):Int:=(if c<0 then -(c+1) else c) % n
theorem pk_lo {c n:Int} (h:0<n):0≤pk c n:=Int.emod_nonneg _ (by omega)
theorem pk_hi {c n:Int} (h:0<n):pk c n<n:=Int.emod_lt_of_pos _ h
theorem remM_of {a b:Int} (ha:0≤a) (hb:0<b):remM a b=some (a % b):=by
 unfold remM
 rw [decide_eq_false (by omega)]
 show some (a.tmod b)=some (a % b)
 rw [Int.tmod_eq_emod_of_nonneg ha]
theorem divM_pos {k:IntKind} {a b:Int} (hb:b≠0):divM k a b=some (k.wrap (a.tdiv b)):=by
 unfold divM
 rw [decide_eq_false hb]
theorem pk_text {c n:Int} (hc:IntKind.i64.has c) (hn:0<n) :
  Option.bind (bif ltM c (0:Int) then some (IntKind.wrap .i64 (negM (IntKind.wrap .i64 (c+(1:Int))))) else some c) (fun (o:Int)=>Option.bind (remM o n) fun (r:Int)=>some r)=some (pk c n):=by
 have hc':-9223372036854775808≤c∧c≤9223372036854775807:=hc
 unfold pk
 by_cases h:c<0
 ·rw [ltI h,cond_true,Option.bind_some,if_pos h,wrap_in (n:=c+1) (by omega) (by omega)]
  unfold negM
  rw [wrap_in (by omega) (by omega),remM_of (by omega) hn]
  rfl
 ·rw [geI (by omega),cond_false,Option.bind_some,if_neg h,remM_of (by omega) hn]
  rfl
theorem row_idxI {α:Type} {m:Nat} {g:Nat→α} {i:Int} (h0:0≤i) (h:i<m):idxM (row m g) i=some (g i.toNat):=by
 obtain ⟨k,rfl⟩:=Int.eq_ofNat_of_zero_le h0
 exact row_idx (by omega)
theorem app_row {α:Type} {b m:Nat} {g:Nat→α} (hb:(m+1)*b≤140737488355328):appM b (row m g) [g m]=some (row (m+1) g):=by
 rw [appM_of (by rw [row_length];simpa using hb),row_succ]
theorem app_rowOf {α:Type} {b m:Nat} {g:Nat→α} {y:α} (hy:y=g m) (hb:(m+1)*b≤140737488355328):appM b (row m g) [y]=some (row (m+1) g):=by
 rw [hy,app_row hb]
end Go.PE
namespace Go.Proofs.YtechphmljdgoaaaGreatDoor
open Go Go.Abs Go.PE
abbrev i64 (n:Int):Prop:=-9223372036854775808≤n∧n≤9223372036854775807
def nn (W H:Nat):Nat:=(W+1)*(H+1)
def fd (W H:Nat) (lo hi:Nat→Int):Int×Int×List Int×List Int:=((W:Int),(H:Int),row (nn W H) lo,row (nn W H) hi)
structure OkF (W H:Nat) (lo hi:Nat→Int):Prop where
 w1:1≤W
 w6:W≤6
 h1:1≤H
 h6:H≤6
 l0:∀ i,i<nn W H→0≤lo i
 lh:∀ i,i<nn W H→lo i≤hi i
 h9:∀ i,i<nn W H→hi i≤100
theorem nn_bd {W H:Nat} (h1:W≤6) (h2:H≤6):nn W H≤49:=Nat.mul_le_mul (show W+1≤7 by omega) (show H+1≤7 by omega)
theorem lenR {α:Type} (m:Nat) (g:Nat→α):lenM (row m g)=(m:Int):=by show ((row m g).length:Int)=_;rw [row_length]
theorem lenL {α:Type} (l:List α):lenM l=(l.length:Int):=rfl
theorem nn_wrap {W H:Nat} (h1:W≤6) (h2:H≤6):IntKind.wrap .i64 (IntKind.wrap .i64 ((W:Int)+1)*IntKind.wrap .i64 ((H:Int)+1))=(nn W H:Int):=by
 have:=nn_bd h1 h2
 have e:((W:Int)+1)*((H:Int)+1)=(nn W H:Int):=by unfold nn;rw [Int.natCast_mul];rfl
 rw [wrap_in (n:=(W:Int)+1) (by omega) (by omega),wrap_in (n:=(H:Int)+1) (by omega) (by omega),e,wrap_in (by omega) (by omega)]
theorem pick_ok {c n:Int} (hc:i64 c) (hn:0<n):m32 (c,n)=some (pk c n):=pk_text hc hn
theorem pickL_ok {c n:Int} (hc:i64 c) (hn:0<n):m12 (c,n)=some (pk c n):=pk_text hc hn
theorem within_ok (n lo hi:Int):m36 (n,lo,hi)=some (decide (lo≤n∧n≤hi)):=by
 unfold m36
 dsimp only
 by_cases h1:lo≤n
 ·rw [leI h1,andT]
  by_cases h2:n≤hi
  ·rw [leI h2,decide_eq_true ⟨h1,h2⟩]
  ·rw [gtI (by omega),decide_eq_false (by omega)]
 ·rw [gtI (by omega),andF,decide_eq_false (by omega)]
theorem pass_loop {α:Type} {n:Nat} {body:Int→Option (Int⊕(Unit⊕α))} (hb:∀ k,k<n→body (k:Int)=some (.inl ((k:Int)+1))) (he:body (n:Int)=some (.inr (.inl ()))):loopM body 0=some (.inl ()) :=
 loopM_fn (fun k=>(k:Int)) n hb he
theorem valid_ok {W H:Nat} {lo hi:Nat→Int} (h:OkF W H lo hi):m31 (fd W H lo hi)=some true:=by
 have h49:=nn_bd h.w6 h.h6
 have w1:=h.w1
 have w6:=h.w6
 have h1:=h.h1
 have h6:=h.h6
 unfold m31 fd
 dsimp only
 rw [within_ok,Option.bind_some,decide_eq_true (by omega),notT,notF,cond_true,within_ok,Option.bind_some,decide_eq_true (by omega),notT,orF,orF,lenR,lenR,nn_wrap w6 h6,eqI rfl,notT,orF,cond_false]
 refine bind_of (pass_loop (n:=nn W H) (fun k hk=>?_) ?_) rfl
 ·have a:=h.l0 k hk
  have b:=h.lh k hk
  have c:=h.h9 k hk
  rw [ltI (by omega),cond_true,row_idx hk,Option.bind_some,row_idx hk,Option.bind_some,within_ok,Option.bind_some,decide_eq_true (by omega),notT,notF,cond_true,Option.bind_some,orF,geI (by omega),cond_false,wrap_in (by omega) (by omega)]
 ·rw [geI (by omega),cond_false]
def src (x:List (Int×Int)) (i:Nat):Int×Int:=if x.length=0 then (7*(i:Int)+(i:Int)*(i:Int),0) else x.getD (i % x.length) (0,0)
def loF (most:Int) (x:List (Int×Int)) (i:Nat):Int:=pk (src x i).1 (most+1)
def hiF (most:Int) (x:List (Int×Int)) (i:Nat):Int:=min (loF most x i+pk (src x i).2 30) most
def szF (w size:Int):Nat:=(1+pk w size).toNat
theorem szF_bd {w size:Int} (h:1≤size) (h6:size≤6):1≤szF w size∧szF w size≤6∧(szF w size:Int)=1+pk w size∧szF w size≤size:=by
 have h1:=pk_lo (c:=w) (n:=size) (by omega)
 have h2:=pk_hi (c:=w) (n:=size) (by omega)
 unfold szF
 omega
theorem made_F {w h size most:Int} {x:List (Int×Int)} (hs:1≤size) (hs6:size≤6) (hm0:0≤most) (hm:most≤100):OkF (szF w size) (szF h size) (loF most x) (hiF most x):=by
 have a:=szF_bd (w:=w) hs hs6
 have b:=szF_bd (w:=h) hs hs6
 refine ⟨a.1,a.2.1,b.1,b.2.1,fun i _=>pk_lo (by omega),fun i _=>?_,fun i _=>?_⟩
 ·have h1:=pk_hi (c:=(src x i).1) (n:=most+1) (by omega)
  have h2:=pk_lo (c:=(src x i).2) (n:=30) (by omega)
  unfold hiF loF
  omega
 ·unfold hiF;omega
theorem src_ok {x:List (Int×Int)} (hx:∀ p∈x,i64 p.1∧i64 p.2) {i:Nat} (hi:i≤100):i64 (src x i).1∧i64 (src x i).2:=by
 unfold src
 by_cases h0:x.length=0
 ·rw [if_pos h0]
  have:=Int.mul_le_mul (show (i:Int)≤100 by omega) (show (i:Int)≤100 by omega) (by omega) (by omega)
  have h2:=Int.mul_nonneg (show (0:Int)≤i by omega) (show (0:Int)≤i by omega)
  unfold i64
  dsimp only
  omega
 ·rw [if_neg h0]
  have hlt:i % x.length<x.length:=Nat.mod_lt _ (by omega)
  have:x.getD (i % x.length) (0,0)∈x:=by simp [List.getD,hlt]
  exact hx _ this
theorem made_ok {w h size most:Int} {x:List (Int×Int)} (hw:i64 w) (hh:i64 h) (hs:1≤size) (hs6:size≤6) (hm0:0≤most) (hm:most≤100) (hx:∀ p∈x,i64 p.1∧i64 p.2) (hxl:x.length≤maxLen):m10 (w,h,size,most,x)=some (fd (szF w size) (szF h size) (loF most x) (hiF most x)):=by
 have hxl:x.length≤9223372036854775807:=hxl
 obtain ⟨a1,a2,a3,_⟩:=szF_bd (w:=w) hs hs6
 obtain ⟨b1,b2,b3,_⟩:=szF_bd (w:=h) hs hs6
 have h49:=nn_bd a2 b2
 unfold m10
 dsimp only
 rw [pick_ok hw (by omega),Option.bind_some,pick_ok hh (by omega),Option.bind_some,← a3,← b3,wrap_in (n:=((szF w size:Nat):Int)) (by omega) (by omega),wrap_in (n:=((szF h size:Nat):Int)) (by omega) (by omega)]
 refine bind_of (count_loop (fun k=>((szF w size:Int),(szF h size:Int),row k (loF most x),row k (hiF most x))) (nn (szF w size) (szF h size)) (r:=((szF w size:Int),(szF h size:Int),row (nn (szF w size) (szF h size)) (loF most x),row (nn (szF w size) (szF h size)) (hiF most x))) (fun k hk=>?_) ?_) rfl
 ·have hsrc:=src_ok hx (show k≤100 by omega)
  dsimp only
  rw [nn_wrap a2 b2,ltI (by omega),cond_true]
  refine bind_of (x:=src x k) ?_ ?_
  ·unfold src
   by_cases h0:x.length=0
   ·rw [geI (by rw [lenL];omega),cond_false,if_pos h0]
    have:=Int.mul_le_mul (show (k:Int)≤100 by omega) (show (k:Int)≤100 by omega) (by omega) (by omega)
    have h2:=Int.mul_nonneg (show (0:Int)≤k by omega) (show (0:Int)≤k by omega)
    rw [wrap_in (n:=7*(k:Int)) (by omega) (by omega),wrap_in (n:=(k:Int)*k) (by omega) (by omega),wrap_in (by omega) (by omega)]
   ·have hlt:k % x.length<x.length:=Nat.mod_lt _ (by omega)
    rw [ltI (by rw [lenL];omega),cond_true,if_neg h0,lenL,remM_of (by omega) (by omega),Option.bind_some,← Int.natCast_emod,idxM_lt hlt,Option.bind_some]
    simp [List.getD,hlt]
  ·have l1:=pk_lo (c:=(src x k).1) (n:=most+1) (by omega)
   have l2:=pk_hi (c:=(src x k).1) (n:=most+1) (by omega)
   have g1:=pk_lo (c:=(src x k).2) (n:=30) (by omega)
   have g2:=pk_hi (c:=(src x k).2) (n:=30) (by omega)
   rw [wrap_in (n:=most+1) (by omega) (by omega),pick_ok hsrc.1 (by omega),Option.bind_some,app_rowOf (y:=pk (src x k).1 (most+1)) (g:=loF most x) rfl (by show (k+1)*8≤_;omega),Option.bind_some,pick_ok hsrc.2 (by omega),Option.bind_some,wrap_in (n:=_+pk (src x k).2 30) (by omega) (by omega),app_rowOf (y:=min (pk (src x k).1 (most+1)+pk (src x k).2 30) most) (g:=hiF most x) rfl (by show (k+1)*8≤_;omega),Option.bind_some,wrap_in (by omega) (by omega)]
 ·dsimp only
  rw [nn_wrap a2 b2,geI (by omega),cond_false]
end Go.Proofs.YtechphmljdgoaaaGreatDoor
namespace Go.Proofs.YtechphmljdgoaaaGreatDoor
open Go Go.Abs Go.PE
def nv (W:Nat) (v:Nat→Int) (x y:Int):Int:=v (y*((W:Int)+1)+x).toNat
def lowT (W:Nat) (v:Nat→Int) (cx cy x y d:Int):Int:=(d-(x-cx*d))*nv W v cx cy+((x-cx*d)-(y-cy*d))*nv W v (cx+1) cy+(y-cy*d)*nv W v (cx+1) (cy+1)
def uppT (W:Nat) (v:Nat→Int) (cx cy x y d:Int):Int:=(d-(y-cy*d))*nv W v cx cy+((y-cy*d)-(x-cx*d))*nv W v cx (cy+1)+(x-cx*d)*nv W v (cx+1) (cy+1)
def atv (W H:Nat) (v:Nat→Int) (x y d:Int):Int :=
 if y-min (y / d) ((H:Int)-1)*d≤x-min (x / d) ((W:Int)-1)*d then lowT W v (min (x / d) ((W:Int)-1)) (min (y / d) ((H:Int)-1)) x y d
 else uppT W v (min (x / d) ((W:Int)-1)) (min (y / d) ((H:Int)-1)) x y d
end Go.Proofs.YtechphmljdgoaaaGreatDoor
namespace Go.Proofs.YtechphmljdgoaaaGreatDoor
open Go Go.Abs Go.PE
open Go.IntKind (wrap)
structure OkV (W H:Nat) (v:Nat→Int):Prop where
 w1:1≤W
 w6:W≤6
 h1:1≤H
 h6:H≤6
 v:∀ i,i<nn W H→0≤v i∧v i≤100
theorem OkF.okLo {W H:Nat} {lo hi:Nat→Int} (h:OkF W H lo hi):OkV W H lo:=⟨h.w1,h.w6,h.h1,h.h6,fun i hi=>by have:=h.l0 i hi;have:=h.lh i hi;have:=h.h9 i hi;omega⟩
theorem OkF.okHi {W H:Nat} {lo hi:Nat→Int} (h:OkF W H lo hi):OkV W H hi:=⟨h.w1,h.w6,h.h1,h.h6,fun i hi=>by have:=h.l0 i hi;have:=h.lh i hi;have:=h.h9 i hi;omega⟩
theorem node_bd {W H:Nat} {cx cy:Int} (x0:0≤cx) (x1:cx≤W) (y0:0≤cy) (y1:cy≤H):0≤cy*((W:Int)+1)∧0≤cy*((W:Int)+1)+cx∧cy*((W:Int)+1)+cx<nn W H:=by
 have h1:=Int.mul_nonneg y0 (show (0:Int)≤(W:Int)+1 by omega)
 have h2:=Int.mul_le_mul_of_nonneg_right y1 (show (0:Int)≤(W:Int)+1 by omega)
 have e:(nn W H:Int)=(H:Int)*((W:Int)+1)+((W:Int)+1):=by
  unfold nn
  rw [Int.natCast_mul,Int.mul_comm]
  show ((H:Int)+1)*((W:Int)+1)=_
  rw [Int.add_mul,Int.one_mul]
 omega
theorem nv_bd {W H:Nat} {v:Nat→Int} (h:OkV W H v) {cx cy:Int} (x0:0≤cx) (x1:cx≤W) (y0:0≤cy) (y1:cy≤H):0≤nv W v cx cy∧nv W v cx cy≤100:=by
 obtain ⟨_,b,c⟩:=node_bd x0 x1 y0 y1
 exact h.v _ (by omega)
theorem node_ok {W H:Nat} {v:Nat→Int} (w6:W≤6) (h6:H≤6) {cx cy:Int} (x0:0≤cx) (x1:cx≤W) (y0:0≤cy) (y1:cy≤H):idxM (row (nn W H) v) (wrap .i64 (wrap .i64 (cy*wrap .i64 ((W:Int)+1))+cx))=some (nv W v cx cy):=by
 obtain ⟨a,b,c⟩:=node_bd x0 x1 y0 y1
 have h49:=nn_bd w6 h6
 rw [wrap_in (n:=(W:Int)+1) (by omega) (by omega),wrap_in (n:=cy*_) (by omega) (by omega),wrap_in (by omega) (by omega),row_idxI b c];rfl
theorem prod_bd {a b A B:Int} (a0:0≤a) (a1:a≤A) (b0:0≤b) (b1:b≤B):0≤a*b∧a*b≤A*B :=
 ⟨Int.mul_nonneg a0 b0,Int.mul_le_mul a1 b1 b0 (by omega)⟩
def atR (W H:Nat) (lo hi:Nat→Int) (x y d:Int):Int×Int×Int:=if 1≤d∧d≤60∧0≤x∧x≤W*d∧0≤y∧y≤H*d then (atv W H lo x y d,atv W H hi x y d,0) else (0,0,250)
end Go.Proofs.YtechphmljdgoaaaGreatDoor
namespace Go.Proofs.YtechphmljdgoaaaGreatDoor
open Go Go.Abs Go.PE
open Go.IntKind (wrap)
abbrev Cor:=Int×Int×Int
abbrev Tri:=Cor×Cor×Cor
def nd (W:Nat) (v:Nat→Int) (x y:Int):Cor:=(x,y,nv W v x y)
def triF (W:Nat) (v:Nat→Int) (k:Nat):Tri :=
 let cx:Int:=((k / 2 % W:Nat):Int)
 let cy:Int:=((k / 2 / W:Nat):Int)
 if k % 2=0 then (nd W v cx cy,nd W v (cx+1) cy,nd W v (cx+1) (cy+1)) else (nd W v cx cy,nd W v (cx+1) (cy+1),nd W v cx (cy+1))
theorem triF_low {W:Nat} (v:Nat→Int) {cx cy:Nat} (h:cx<W):triF W v (2*(cy*W+cx))=(nd W v cx cy,nd W v (cx+1) cy,nd W v (cx+1) (cy+1)):=by
 unfold triF
 rw [show 2*(cy*W+cx) / 2=cy*W+cx by omega,if_pos (by omega),Nat.mul_comm cy W,Nat.mul_add_mod,Nat.mod_eq_of_lt h,Nat.mul_add_div (by omega),Nat.div_eq_of_lt h,Nat.add_zero]
theorem triF_upp {W:Nat} (v:Nat→Int) {cx cy:Nat} (h:cx<W):triF W v (2*(cy*W+cx)+1)=(nd W v cx cy,nd W v (cx+1) (cy+1),nd W v cx (cy+1)):=by
 unfold triF
 rw [show (2*(cy*W+cx)+1) / 2=cy*W+cx by omega,if_neg (by omega),Nat.mul_comm cy W,Nat.mul_add_mod,Nat.mod_eq_of_lt h,Nat.mul_add_div (by omega),Nat.div_eq_of_lt h,Nat.add_zero]
def tSum (W:Nat) (v:Nat→Int) (k:Nat):Int:=(triF W v k).1.2.2+(triF W v k).2.1.2.2+(triF W v k).2.2.2.2
def sT (W:Nat) (v:Nat→Int):Nat→Int
 | 0=>0
 | k+1=>sT W v k+tSum W v k
theorem tSum_bd {W H:Nat} {v:Nat→Int} (h:OkV W H v) {k:Nat} (hk:k<2*(H*W)):0≤(triF W v k).1.2.2∧(triF W v k).1.2.2≤100∧0≤(triF W v k).2.1.2.2∧(triF W v k).2.1.2.2≤100∧0≤(triF W v k).2.2.2.2∧(triF W v k).2.2.2.2≤100:=by
 have w1:=h.w1
 have hc:k / 2<H*W:=by omega
 have hx:k / 2 % W<W:=Nat.mod_lt _ (by omega)
 have hy:k / 2 / W<H:=(Nat.div_lt_iff_lt_mul (by omega)).2 hc
 unfold triF
 dsimp only
 generalize k / 2 % W=p at *
 generalize k / 2 / W=q at *
 have n00:=nv_bd h (cx:=(p:Int)) (cy:=(q:Int)) (by omega) (by omega) (by omega) (by omega)
 have n10:=nv_bd h (cx:=(p:Int)+1) (cy:=(q:Int)) (by omega) (by omega) (by omega) (by omega)
 have n11:=nv_bd h (cx:=(p:Int)+1) (cy:=(q:Int)+1) (by omega) (by omega) (by omega) (by omega)
 have n01:=nv_bd h (cx:=(p:Int)) (cy:=(q:Int)+1) (by omega) (by omega) (by omega) (by omega)
 split
 ·exact ⟨n00.1,n00.2,n10.1,n10.2,n11.1,n11.2⟩
 ·exact ⟨n00.1,n00.2,n11.1,n11.2,n01.1,n01.2⟩
theorem sT_bd {W H:Nat} {v:Nat→Int} (h:OkV W H v):∀ k,k≤2*(H*W)→0≤sT W v k∧sT W v k≤300*k
 | 0,_=>by show (0:Int)≤0∧(0:Int)≤300*((0:Nat):Int);omega
 | k+1,hk=>by
  have h1:=sT_bd h k (by omega)
  have h2:=tSum_bd h (k:=k) (by omega)
  show 0≤sT W v k+tSum W v k∧sT W v k+tSum W v k≤300*((k+1:Nat):Int)
  unfold tSum
  omega
noncomputable def itE (W H:Int) (L:List Int):Option Int :=
 (loopM (fun (s:Int×Int)=>bif ltM s.1 H then (loopM
 (fun (s_1:Int×Int)=>bif ltM s_1.1 W then ((idxM L (wrap .i64 (wrap .i64 (s.1*wrap .i64 (W+1))+s_1.1))).bind fun r
 => some r).bind fun (ov:Int)=>((idxM L (wrap .i64 (wrap .i64 (s.1*wrap .i64 (W+1))+wrap .i64 (s_1.1+1)))).bind
 fun r=>some r).bind fun (ov_1:Int)=>((idxM L (wrap .i64 (wrap .i64 (wrap .i64 (s.1+1)*wrap .i64 (W+1))+wrap
 IntKind.i64 (s_1.1+1)))).bind fun r=>some r).bind fun (ov_2:Int)=>((idxM L (wrap .i64 (wrap .i64 (s.1*wrap .i64 (W+1)) +
 s_1.1))).bind fun r=>some r).bind fun (ov_3:Int)=>((idxM L (wrap .i64 (wrap .i64 (wrap .i64 (s.1+1)*wrap .i64 (W +
 1))+wrap .i64 (s_1.1+1)))).bind fun r=>some r).bind fun (ov_4:Int)=>((idxM L (wrap .i64 (wrap .i64 (wrap .i64 (s.1 +
 1)*wrap .i64 (W+1))+s_1.1))).bind fun r=>some r).bind fun (ov_5:Int)=>some (Sum.inl (wrap .i64 (s_1.1 +
 1),wrap .i64 (wrap .i64 (s_1.2+wrap .i64 (wrap .i64 (ov+ov_1)+ov_2))+wrap .i64 (wrap .i64 (ov_3+ov_4) +
 ov_5)))) else some (Sum.inr s_1.2)) (0,s.2)).bind fun o=>some (Sum.inl (wrap .i64 (s.1+1),o)) else some (Sum.inr s.2)) (0,0)).bind fun o=>some o
theorem itE_ok {W H:Nat} {v:Nat→Int} (h:OkV W H v):itE W H (row (nn W H) v)=some (sT W v (2*(H*W))):=by
 have w6:=h.w6
 have h6:=h.h6
 have hWH:H*W≤36:=Nat.mul_le_mul h6 w6
 unfold itE
 refine bind_of (x:=sT W v (2*(H*W))) ?_ rfl
 have e0:(0:Int)=sT W v (2*(0*W)):=by rw [Nat.zero_mul];rfl
 refine Eq.trans (congrArg (fun l=>loopM _ ((0:Int),l)) e0) (count_loop (fun cy=>sT W v (2*(cy*W))) H (fun cy hy=>?_) ?_)
 ·dsimp only
  rw [ltI (by omega),cond_true,wrap_in (n:=(cy:Int)+1) (by omega) (by omega)]
  refine bind_of (x:=sT W v (2*((cy+1)*W))) ?_ rfl
  refine count_loop (fun cx=>sT W v (2*(cy*W+cx))) W (fun cx hx=>?_) ?_
  ·have hb:cy*W+cx+1≤H*W:=by
    have:(cy+1)*W≤H*W:=Nat.mul_le_mul_right _ hy
    rw [Nat.add_mul,Nat.one_mul] at this
    omega
   have h1:=sT_bd h (2*(cy*W+cx)) (by omega)
   have n00:=nv_bd h (cx:=(cx:Int)) (cy:=(cy:Int)) (by omega) (by omega) (by omega) (by omega)
   have n10:=nv_bd h (cx:=(cx:Int)+1) (cy:=(cy:Int)) (by omega) (by omega) (by omega) (by omega)
   have n11:=nv_bd h (cx:=(cx:Int)+1) (cy:=(cy:Int)+1) (by omega) (by omega) (by omega) (by omega)
   have n01:=nv_bd h (cx:=(cx:Int)) (cy:=(cy:Int)+1) (by omega) (by omega) (by omega) (by omega)
   dsimp only
   rw [ltI (by omega),cond_true,wrap_in (n:=(cx:Int)+1) (by omega) (by omega),node_ok w6 h6 (cx:=(cx:Int)) (cy:=(cy:Int)) (by omega) (by omega) (by omega) (by omega),node_ok w6 h6 (cx:=(cx:Int)+1) (cy:=(cy:Int)) (by omega) (by omega) (by omega) (by omega),node_ok w6 h6 (cx:=(cx:Int)+1) (cy:=(cy:Int)+1) (by omega) (by omega) (by omega) (by omega),node_ok w6 h6 (cx:=(cx:Int)) (cy:=(cy:Int)+1) (by omega) (by omega) (by omega) (by omega)]
   simp only [Option.bind_some]
   have e:sT W v (2*(cy*W+(cx+1)))=sT W v (2*(cy*W+cx))+(nv W v cx cy+nv W v (cx+1) cy+nv W v (cx+1) (cy+1))+(nv W v cx cy+nv W v (cx+1) (cy+1)+nv W v cx (cy+1)):=by
    rw [show 2*(cy*W+(cx+1))=2*(cy*W+cx)+1+1 by omega]
    show sT W v (2*(cy*W+cx))+tSum W v (2*(cy*W+cx))+tSum W v (2*(cy*W+cx)+1)=_
    unfold tSum
    rw [triF_low v hx,triF_upp v hx];rfl
   rw [e,wrap_in (n:=nv W v cx cy+nv W v (cx+1) cy) (by omega) (by omega),wrap_in (n:=nv W v cx cy+nv W v (cx+1) cy+_) (by omega) (by omega),wrap_in (n:=nv W v cx cy+nv W v (cx+1) (cy+1)) (by omega) (by omega),wrap_in (n:=nv W v cx cy+nv W v (cx+1) (cy+1)+_) (by omega) (by omega),wrap_in (n:=sT W v _+_) (by omega) (by omega),wrap_in (by omega) (by omega)]
  ·dsimp only
   rw [geI (by omega),cond_false,Nat.add_mul,Nat.one_mul]
 ·dsimp only
  rw [geI (by omega),cond_false]
theorem integral_ok {W H:Nat} {lo hi:Nat→Int} (h:OkF W H lo hi):m14 (fd W H lo hi)=some (sT W lo (2*(H*W)),sT W hi (2*(H*W))):=by
 unfold m14
 have v1:=valid_ok h
 unfold fd at v1 ⊢
 dsimp only
 rw [v1,Option.bind_some,notT,cond_false]
 refine bind_of (itE_ok h.okLo) ?_
 refine bind_of (itE_ok h.okHi) rfl
end Go.Proofs.YtechphmljdgoaaaGreatDoor
namespace Go.Proofs.YtechphmljdgoaaaGreatDoor
theorem qdiv_mul {n d:Rat} (hd:0<d):n / d*d=n:=Rat.div_mul_cancel (by grind)
def ar (a b c:Rat):Rat:=if 0<a then 1 / 2 else if 0<b then 1 / 2-a*a / (2*((b-a)*(c-a))) else if 0<c then c*c / (2*((c-a)*(c-b))) else 0
end Go.Proofs.YtechphmljdgoaaaGreatDoor
namespace Go.Proofs.YtechphmljdgoaaaGreatDoor
def Dn (D B:Nat) (q:Rat):Prop:=∃ z:Int,q*(D:Rat)=(z:Rat)∧z.natAbs≤B*D
theorem mul_den (q:Rat):q*(q.den:Rat)=(q.num:Rat):=by
 have h:((q.den:Int):Rat)≠0:=fun e=>q.den_nz (by have:=Rat.intCast_inj.1 (show ((q.den:Int):Rat)=((0:Int):Rat) from e);omega)
 have e:q=(q.num:Rat) / ((q.den:Int):Rat):=by rw [← Rat.divInt_eq_div];exact (Rat.num_divInt_den q).symm
 have:=Rat.div_mul_cancel (a:=(q.num:Rat)) h
 rw [← e,Rat.intCast_natCast] at this
 exact this
theorem Dn.num_den {D B:Nat} {q:Rat} (hD:0<D) (h:Dn D B q):q.den≤D∧q.num.natAbs≤B*D:=by
 obtain ⟨z,e,hz⟩:=h
 have hd:=q.den_pos
 have e1:q*(q.den:Rat)=(q.num:Rat):=mul_den q
 have e2:q.num*(D:Int)=z*(q.den:Int):=by
  have:((q.num*(D:Int):Int):Rat)=((z*(q.den:Int):Int):Rat):=by
   rw [Rat.intCast_mul,Rat.intCast_mul,← e,← e1,Rat.intCast_natCast,Rat.intCast_natCast]
   grind
  exact Rat.intCast_inj.1 this
 have e3:q.num.natAbs*D=z.natAbs*q.den:=by
  have:=congrArg Int.natAbs e2
  rwa [Int.natAbs_mul,Int.natAbs_mul,Int.natAbs_natCast,Int.natAbs_natCast] at this
 have hdv:q.den ∣ D:=by
  have h1:q.den ∣ q.num.natAbs*D:=⟨z.natAbs,by rw [e3,Nat.mul_comm]⟩
  exact (Nat.Coprime.symm q.reduced).dvd_of_dvd_mul_left h1
 have hle:=Nat.le_of_dvd hD hdv
 refine ⟨hle,?_⟩
 have h1:q.num.natAbs*D≤B*q.den*D:=by
  rw [e3]
  have:=Nat.mul_le_mul_right q.den hz
  rw [Nat.mul_right_comm] at this
  exact this
 have h2:=Nat.le_of_mul_le_mul_right h1 hD
 exact Nat.le_trans h2 (Nat.mul_le_mul_left B hle)
theorem Dn.add {D B C:Nat} {p q:Rat} (hp:Dn D B p) (hq:Dn D C q):Dn D (B+C) (p+q):=by
 obtain ⟨z,e,hz⟩:=hp
 obtain ⟨w,f,hw⟩:=hq
 refine ⟨z+w,?_,?_⟩
 ·rw [Rat.intCast_add,← e,← f];grind
 ·rw [Nat.add_mul];omega
theorem Dn.mono {D B C:Nat} {q:Rat} (h:Dn D B q) (hB:B≤C):Dn D C q:=by
 obtain ⟨z,e,hz⟩:=h
 exact ⟨z,e,Nat.le_trans hz (Nat.mul_le_mul_right D hB)⟩
theorem Dn.zero {D:Nat}:Dn D 0 0:=⟨0,by rw [Rat.zero_mul];rfl,by omega⟩
theorem divInt_eq (n d:Int):Rat.divInt n d=(n:Rat) / (d:Rat):=by exact Rat.divInt_eq_div n d
theorem Dn.of {D B:Nat} {n d:Int} (h0:d≠0) (hd:d ∣ (D:Int)) (hn:n.natAbs≤B*d.natAbs):Dn D B (Rat.divInt n d):=by
 obtain ⟨k,hk⟩:=hd
 have hd0:(d:Rat)≠0:=fun e=>h0 (Rat.intCast_inj.1 (by simpa using e))
 refine ⟨n*k,?_,?_⟩
 ·rw [divInt_eq,← Rat.intCast_natCast,hk,Rat.intCast_mul,Rat.intCast_mul,← Rat.mul_assoc,Rat.div_mul_cancel hd0]
 ·have e:D=d.natAbs*k.natAbs:=by have:=congrArg Int.natAbs hk;rwa [Int.natAbs_mul,Int.natAbs_natCast] at this
  rw [e,Int.natAbs_mul,← Nat.mul_assoc]
  exact Nat.mul_le_mul_right _ hn
end Go.Proofs.YtechphmljdgoaaaGreatDoor
namespace Go.Proofs.YtechphmljdgoaaaGreatDoor
def trn (a b c:Int×Int):Int:=(b.1-a.1)*(c.2-a.2)-(b.2-a.2)*(c.1-a.1)
def farD (a b:Int×Int):Int:=(a.1-b.1)*(a.1-b.1)+(a.2-b.2)*(a.2-b.2)
def evP (G:Int×Int×Int) (p:Int×Int):Int:=G.1*p.1+G.2.1*p.2+G.2.2
def ExtP (S:List (Int×Int)) (a:Int×Int):Prop:=∃ G,evP G a=0∧∀ p∈S,p≠a→0<evP G p
def Suc (S:List (Int×Int)) (a c:Int×Int):Prop:=c∈S∧c≠a∧∀ p∈S,p≠a→0<trn a c p∨(trn a c p=0∧farD a p≤farD a c)
theorem ev_prop {G:Int×Int×Int} {a c p:Int×Int} (h0:evP G a=0) (h:trn a c p=0):evP G c*(p.1-a.1)=evP G p*(c.1-a.1)∧evP G c*(p.2-a.2)=evP G p*(c.2-a.2):=by
 unfold evP trn at *
 constructor<;>grind
theorem plu {G:Int×Int×Int} {a w u v:Int×Int} (h0:evP G a=0):evP G w*trn a u v=evP G u*trn a w v-evP G v*trn a w u:=by
 unfold evP trn at *
 grind
theorem sq0 (x:Int):0≤x*x:=by
 rcases Int.le_total 0 x with h | h
 ·exact Int.mul_nonneg h h
 ·have:=Int.mul_nonneg (show 0≤-x by omega) (show 0≤-x by omega);rwa [Int.neg_mul_neg] at this
theorem farD_pos {a c:Int×Int} (h:c≠a):0<farD a c:=by
 unfold farD
 have h1:∀ x:Int,0≤x*x:=fun x=>sq0 x
 have h2:∀ x:Int,x≠0→0<x*x:=fun x hx=>by
  have:=h1 x
  have:x*x≠0:=Int.mul_ne_zero hx hx
  omega
 by_cases e:a.1-c.1=0
 ·have e2:a.2-c.2≠0:=fun e2=>h (Prod.ext (by omega) (by omega))
  have:=h2 _ e2
  have:=h1 (a.1-c.1)
  omega
 ·have:=h2 _ e
  have:=h1 (a.2-c.2)
  omega
theorem seg {G:Int×Int×Int} {a c p:Int×Int} (h0:evP G a=0) (hc:0<evP G c) (hp:0<evP G p) (hca:c≠a) (h:trn a c p=0) (hf:farD a p≤farD a c):evP G p≤evP G c∧(evP G p=evP G c→p=c):=by
 obtain ⟨e1,e2⟩:=ev_prop h0 h
 have hpos:=farD_pos hca
 have key:evP G c*evP G c*farD a p=evP G p*evP G p*farD a c:=by unfold farD;grind
 generalize hgc:evP G c=x at *
 generalize hgp:evP G p=y at *
 constructor
 ·refine Int.not_lt.1 fun hl=>?_
  have k1:x*x<y*y:=by
   have:=Int.mul_lt_mul_of_pos_left hl hc
   have:=Int.mul_lt_mul_of_pos_right hl hp
   omega
  have k2:=Int.mul_lt_mul_of_pos_right k1 hpos
  have k3:=Int.mul_le_mul_of_nonneg_left hf (sq0 x)
  omega
 ·intro e
  subst e
  have f1:=Int.eq_of_mul_eq_mul_left (by omega) e1
  have f2:=Int.eq_of_mul_eq_mul_left (by omega) e2
  exact Prod.ext (by omega) (by omega)
theorem no_mid {S:List (Int×Int)} {a c b:Int×Int} (ha:ExtP S a) (haS:a∈S) (hs:Suc S a c) (hb:ExtP S b) (hbS:b∈S) (h:trn a c b=0) (h1:b≠a) (h2:b≠c):False:=by
 obtain ⟨G,g0,g1⟩:=ha
 obtain ⟨K,k0,k1⟩:=hb
 obtain ⟨cS,ca,hall⟩:=hs
 have hf:farD a b≤farD a c:=by
  rcases hall b hbS h1 with x | x
  ·omega
  ·exact x.2
 obtain ⟨m1,m2⟩:=seg g0 (g1 c cS ca) (g1 b hbS h1) ca h hf
 have m3:evP G b<evP G c:=by
  have:evP G b≠evP G c:=fun e=>h2 (m2 e)
  omega
 obtain ⟨e1,e2⟩:=ev_prop (G:=G) g0 h
 have p1:=k1 a haS (fun e=>h1 e.symm)
 have p2:=k1 c cS (fun e=>h2 e.symm)
 have q:=g1 b hbS h1
 have key:(evP G c-evP G b)*evP K a+evP G b*evP K c=evP G c*evP K b:=by
  generalize evP G c=x at *
  generalize evP G b=y at *
  have t:x*(evP K b-evP K a)=y*(evP K c-evP K a):=by unfold evP;grind
  grind
 rw [k0,Int.mul_zero] at key
 have:=Int.mul_pos (show 0<evP G c-evP G b by omega) p1
 have:=Int.mul_pos q p2
 omega
theorem big {α:Type} (S:List α) (f:α→Int):∃ M:Int,0≤M∧∀ p∈S,f p<M:=by
 induction S with
 | nil=>exact ⟨0,by omega,fun p hp=>by cases hp⟩
 | cons x l ih =>
  obtain ⟨M,h0,h⟩:=ih
  refine ⟨max M (f x+1),by omega,fun p hp=>?_⟩
  rcases List.mem_cons.1 hp with rfl | hp
  ·omega
  ·have:=h p hp;omega
theorem ext_suc {S:List (Int×Int)} {a c:Int×Int} (ha:ExtP S a) (haS:a∈S) (hs:Suc S a c):ExtP S c:=by
 obtain ⟨G,g0,g1⟩:=ha
 obtain ⟨cS,ca,hall⟩:=hs
 obtain ⟨M,hM0,hM⟩:=big S (fun p=>evP G p-evP G c)
 refine ⟨(M*(-(c.2-a.2))-G.1,M*(c.1-a.1)-G.2.1,M*((c.2-a.2)*a.1-(c.1-a.1)*a.2)+evP G c-G.2.2),?_,fun p hp hpc=>?_⟩
 ·unfold evP;grind
 ·have e:evP (M*(-(c.2-a.2))-G.1,M*(c.1-a.1)-G.2.1,M*((c.2-a.2)*a.1-(c.1-a.1)*a.2)+evP G c-G.2.2) p=M*trn a c p+evP G c-evP G p:=by unfold evP trn;grind
  rw [e]
  have hMp:=hM p hp
  have hgc:=g1 c cS ca
  by_cases hpa:p=a
  ·subst hpa
   have:trn p c p=0:=by unfold trn;grind
   rw [this,g0];omega
  ·rcases hall p hp hpa with x | ⟨x,y⟩
   ·have:=Int.mul_le_mul_of_nonneg_left (show 1≤trn a c p by omega) hM0
    omega
   ·obtain ⟨m1,m2⟩:=seg g0 hgc (g1 p hp hpa) ca x y
    have:evP G p≠evP G c:=fun e=>hpc (m2 e)
    rw [x,Int.mul_zero];omega
theorem suc_inj {S:List (Int×Int)} {a b c:Int×Int} (ha:ExtP S a) (haS:a∈S) (hb:ExtP S b) (hbS:b∈S) (h1:Suc S a c) (h2:Suc S b c):a=b:=by
 refine Decidable.byContradiction fun hab=>?_
 have t1:0≤trn a c b:=by rcases h1.2.2 b hbS (fun e=>hab e.symm) with x | x<;>omega
 have t2:0≤trn b c a:=by rcases h2.2.2 a haS hab with x | x<;>omega
 have e:trn b c a=- trn a c b:=by unfold trn;grind
 exact no_mid ha haS h1 hb hbS (by omega) (fun e=>hab e.symm) (fun e=>h2.2.1 e.symm)
def nxS (a n p:Int×Int):Int×Int:=if p=a then n else if n=a∨trn a n p<0∨(trn a n p=0∧farD a n<farD a p) then p else n
def nxF (a:Int×Int) (l:List (Int×Int)):Int×Int:=l.foldl (nxS a) a
def NxtP (a:Int×Int) (l:List (Int×Int)) (n:Int×Int):Prop:=(n=a∧∀ p∈l,p=a)∨(n∈l∧n≠a∧∀ p∈l,p≠a→0<trn a n p∨(trn a n p=0∧farD a p≤farD a n))
theorem nxS_ok {S:List (Int×Int)} {a n x:Int×Int} (ha:ExtP S a) (l:List (Int×Int)) (hl:∀ p∈l,p∈S) (hx:x∈S) (ih:NxtP a l n):NxtP a (l++[x]) (nxS a n x):=by
 obtain ⟨G,g0,g1⟩:=ha
 unfold NxtP nxS at *
 by_cases hxa:x=a
 ·rw [if_pos hxa]
  rcases ih with ⟨i1,i2⟩ | ⟨i1,i2,i3⟩
  ·refine .inl ⟨i1,fun p hp=>?_⟩
   rcases List.mem_append.1 hp with h | h
   ·exact i2 p h
   ·rw [List.mem_singleton.1 h];exact hxa
  ·refine .inr ⟨by simp [i1],i2,fun p hp hpa=>?_⟩
   rcases List.mem_append.1 hp with h | h
   ·exact i3 p h hpa
   ·exact absurd ((List.mem_singleton.1 h).trans hxa) hpa
 ·rw [if_neg hxa]
  have self:trn a x x=0:=by unfold trn;grind
  rcases ih with ⟨i1,i2⟩ | ⟨i1,i2,i3⟩
  ·rw [if_pos (.inl i1)]
   refine .inr ⟨by simp,hxa,fun p hp hpa=>?_⟩
   rcases List.mem_append.1 hp with h | h
   ·exact absurd (i2 p h) hpa
   ·rw [List.mem_singleton.1 h];exact .inr ⟨self,Int.le_refl _⟩
  ·have gn:=g1 n (hl n (by simp [i1])) i2
   have gx:=g1 x hx hxa
   by_cases hc:n=a∨trn a n x<0∨(trn a n x=0∧farD a n<farD a x)
   ·rw [if_pos hc]
    refine .inr ⟨by simp,hxa,fun p hp hpa=>?_⟩
    rcases List.mem_append.1 hp with h | h
    ·have gp:=g1 p (hl p (by simp [h])) hpa
     have pl:=plu (G:=G) (w:=n) (u:=x) (v:=p) g0
     rcases hc with hc | hc | ⟨hc,hd⟩
     ·exact absurd hc i2
     ·left
      have q1:0≤evP G x*trn a n p:=Int.mul_nonneg (by omega) (by rcases i3 p h hpa with y | y<;>omega)
      have q2:evP G p*trn a n x<0:=Int.mul_neg_of_pos_of_neg gp hc
      exact Int.pos_of_mul_pos_right (a:=evP G n) (by rw [pl];omega) gn
     ·rw [hc,Int.mul_zero,Int.sub_zero] at pl
      rcases i3 p h hpa with y | ⟨y,z⟩
      ·left
       exact Int.pos_of_mul_pos_right (a:=evP G n) (by rw [pl];exact Int.mul_pos gx y) gn
      ·right
       rw [y,Int.mul_zero] at pl
       rcases Int.mul_eq_zero.1 pl with e | e
       ·omega
       ·exact ⟨e,by omega⟩
    ·rw [List.mem_singleton.1 h];exact .inr ⟨self,Int.le_refl _⟩
   ·rw [if_neg hc]
    refine .inr ⟨by simp [i1],i2,fun p hp hpa=>?_⟩
    rcases List.mem_append.1 hp with h | h
    ·exact i3 p h hpa
    ·rw [List.mem_singleton.1 h];omega
theorem nxF_inv {S:List (Int×Int)} {a:Int×Int} (ha:ExtP S a):∀ (l pre:List (Int×Int)) (n:Int×Int),(∀ p∈pre++l,p∈S)→NxtP a pre n→NxtP a (pre++l) (l.foldl (nxS a) n)
 | [],pre,n,h,hn=>by rw [List.append_nil];exact hn
 | x::l,pre,n,h,hn=>by
  have e:pre++x::l=(pre++[x])++l:=by simp
  rw [e,List.foldl_cons]
  refine nxF_inv ha l (pre++[x]) _ (fun p hp=>h p (by rw [e];exact hp)) (nxS_ok ha pre (fun p hp=>h p (by simp [hp])) (h x (by simp)) hn)
theorem ext_low {S:List (Int×Int)} {f:Int×Int} (h:∀ p∈S,f.2<p.2∨(f.2=p.2∧f.1≤p.1)):ExtP S f:=by
 obtain ⟨M,hM0,hM⟩:=big S (fun p=>f.1-p.1)
 refine ⟨(1,M,-(f.1+M*f.2)),by unfold evP;grind,fun p hp hpf=>?_⟩
 have e:evP (1,M,-(f.1+M*f.2)) p=(p.1-f.1)+M*(p.2-f.2):=by unfold evP;grind
 rw [e]
 have:=hM p hp
 rcases h p hp with x | ⟨x,y⟩
 ·have:=Int.mul_le_mul_of_nonneg_left (show 1≤p.2-f.2 by omega) hM0
  omega
 ·have:p.1≠f.1:=fun e=>hpf (Prod.ext e x.symm)
  rw [show p.2-f.2=0 by omega];omega
structure Chn (S l:List (Int×Int)):Prop where
 pos:0<l.length
 nd:l.Nodup
 mem:∀ i,i<l.length→l.getD i (0,0)∈S∧ExtP S (l.getD i (0,0))
 suc:∀ i,i+1<l.length→Suc S (l.getD i (0,0)) (l.getD (i+1) (0,0))
theorem getD_eq {l:List (Int×Int)} {i:Nat} (h:i<l.length):l.getD i (0,0)=l[i]:=by simp [List.getD,h]
theorem nd_getD {l:List (Int×Int)} (h:l.Nodup) {i j:Nat} (hi:i<l.length) (hj:j<l.length) (e:l.getD i (0,0)=l.getD j (0,0)):i=j:=by
 rw [getD_eq hi,getD_eq hj] at e
 exact (List.getElem_inj h).1 e
theorem mem_getD {l:List (Int×Int)} {x:Int×Int} (h:x∈l):∃ j,j<l.length∧x=l.getD j (0,0):=by
 obtain ⟨j,hj,e⟩:=List.getElem_of_mem h
 exact ⟨j,hj,by rw [getD_eq hj,e]⟩
theorem Chn.one {S:List (Int×Int)} {f:Int×Int} (hf:f∈S) (h:ExtP S f):Chn S [f]:=by
 refine ⟨Nat.zero_lt_one,by simp,fun i hi=>?_,fun i hi=>by simp at hi⟩
 rw [show i=0 by simpa using hi]
 exact ⟨hf,h⟩
theorem getD_app {l:List (Int×Int)} {c:Int×Int} (i:Nat) (h:i<l.length):(l++[c]).getD i (0,0)=l.getD i (0,0):=by
 rw [getD_eq (by simp;omega),getD_eq h,List.getElem_append_left h]
theorem getD_last {l:List (Int×Int)} {c:Int×Int}:(l++[c]).getD l.length (0,0)=c:=by
 rw [getD_eq (by simp)];simp
theorem Chn.app {S l:List (Int×Int)} {c:Int×Int} (h:Chn S l) (hs:Suc S (l.getD (l.length-1) (0,0)) c) (hc:c≠l.getD 0 (0,0)):Chn S (l++[c]):=by
 have hp:=h.pos
 have hm:=h.mem (l.length-1) (by omega)
 have hnot:c∉l:=fun hcl=>by
  obtain ⟨j,hj,e⟩:=mem_getD hcl
  match j with
  | 0=>exact hc e
  | j+1 =>
   have h1:=h.suc j hj
   rw [← e] at h1
   have hmj:=h.mem j (by omega)
   have:=nd_getD h.nd (by omega) (by omega) (suc_inj hmj.2 hmj.1 hm.2 hm.1 h1 hs)
   omega
 refine ⟨by simp,?_,fun i hi=>?_,fun i hi=>?_⟩
 ·rw [List.nodup_append]
  refine ⟨h.nd,by simp,fun a ha b hb e=>?_⟩
  rw [List.mem_singleton.1 hb] at e
  exact hnot (e▸ha)
 ·rw [List.length_append,List.length_singleton] at hi
  by_cases e:i<l.length
  ·rw [getD_app i e];exact h.mem i e
  ·rw [show i=l.length by omega,getD_last];exact ⟨hs.1,ext_suc hm.2 hm.1 hs⟩
 ·rw [List.length_append,List.length_singleton] at hi
  rw [getD_app i (by omega)]
  by_cases e:i+1<l.length
  ·rw [getD_app _ e];exact h.suc i e
  ·rw [show i+1=l.length by omega,getD_last,show i=l.length-1 by omega];exact hs
theorem Chn.len {S l:List (Int×Int)} (h:Chn S l):l.length≤S.length :=
 List.Nodup.length_le_of_subset h.nd (fun x hx=>by obtain ⟨j,hj,e⟩:=mem_getD hx;rw [e];exact (h.mem j hj).1)
def Cvx (l:List (Int×Int)):Prop:=∀ i k,i<l.length→k<l.length→k≠i→k≠(i+1) % l.length→0<trn (l.getD i (0,0)) (l.getD ((i+1) % l.length) (0,0)) (l.getD k (0,0))
theorem Chn.cvx {S l:List (Int×Int)} (h:Chn S l) (hc:Suc S (l.getD (l.length-1) (0,0)) (l.getD 0 (0,0))):Cvx l:=by
 intro i k hi hk h1 h2
 have hmi:=h.mem i hi
 have hmk:=h.mem k hk
 have hl:(i+1) % l.length<l.length:=Nat.mod_lt _ (by omega)
 have hs:Suc S (l.getD i (0,0)) (l.getD ((i+1) % l.length) (0,0)):=by
  by_cases e:i+1<l.length
  ·rw [Nat.mod_eq_of_lt e];exact h.suc i e
  ·rw [show i+1=l.length by omega,Nat.mod_self,show i=l.length-1 by omega];exact hc
 have n1:l.getD k (0,0)≠l.getD i (0,0):=fun e=>h1 (nd_getD h.nd hk hi e)
 have n2:l.getD k (0,0)≠l.getD ((i+1) % l.length) (0,0):=fun e=>h2 (nd_getD h.nd hk hl e)
 rcases hs.2.2 _ hmk.1 n1 with x | x
 ·exact x
 ·exact (no_mid hmi.2 hmi.1 hs hmk.2 hmk.1 x.1 n1 n2).elim
end Go.Proofs.YtechphmljdgoaaaGreatDoor
namespace Go.Proofs.YtechphmljdgoaaaGreatDoor
abbrev Spt:=Int×Int×Int
def lev (L:Spt) (s:Spt):Int:=L.1*s.1+L.2.1*s.2.1+L.2.2*s.2.2
structure Mix (s t c:Spt):Prop where
 ex:∃ k p q:Int,0<k∧0<p∧0<q∧k*c.1=p*s.1+q*t.1∧k*c.2.1=p*s.2.1+q*t.2.1∧k*c.2.2=p*s.2.2+q*t.2.2
 red:Int.gcd (Int.gcd c.1 c.2.1) c.2.2=1
theorem Mix.at {s t c:Spt} (h:Mix s t c) (F:Spt):∃ k p q:Int,0<k∧0<p∧0<q∧k*lev F c=p*lev F s+q*lev F t:=by
 obtain ⟨k,p,q,hk,hp,hq,e1,e2,e3⟩:=h.ex
 refine ⟨k,p,q,hk,hp,hq,?_⟩
 unfold lev
 grind
theorem Mix.nn {s t c:Spt} (h:Mix s t c) (F:Spt) (h1:0≤lev F s) (h2:0≤lev F t):0≤lev F c:=by
 obtain ⟨k,p,q,hk,hp,hq,e⟩:=h.at F
 have a:=Int.mul_nonneg (show 0≤p by omega) h1
 have b:=Int.mul_nonneg (show 0≤q by omega) h2
 exact Int.nonneg_of_mul_nonneg_right (a:=k) (by rw [e];omega) hk
theorem Mix.zero {s t c:Spt} (h:Mix s t c) (F:Spt) (h1:lev F s=0) (h2:lev F t=0):lev F c=0:=by
 obtain ⟨k,p,q,hk,hp,hq,e⟩:=h.at F
 rw [h1,h2,Int.mul_zero,Int.mul_zero] at e
 rcases Int.mul_eq_zero.1 (e.trans rfl) with x | x
 ·omega
 ·exact x
def Eg (s t:Spt):Prop:=∃ e:Spt,e.1.natAbs≤6∧e.2.1.natAbs≤6∧¬ (e.1=0∧e.2.1=0)∧lev e s=0∧lev e t=0
theorem dvd_det {x y d m:Int} (hr:Int.gcd (Int.gcd x y) d=1) (h1:d ∣ m*x) (h2:d ∣ m*y):d ∣ m:=by
 have h3:d ∣ m*(Int.gcd x y:Int):=by
  have:=Int.dvd_coe_gcd h1 h2
  rw [Int.gcd_mul_left,Int.natCast_mul] at this
  have h4:d ∣ (m.natAbs:Int)*(Int.gcd x y:Int):=this
  rcases Int.natAbs_eq m with e | e
  ·rw [e];exact h4
  ·rw [e,Int.neg_mul];exact Int.dvd_neg.2 h4
 have h5:=Int.dvd_coe_gcd h3 (Int.dvd_mul_left m d)
 rw [Int.gcd_mul_left,hr,Nat.mul_one] at h5
 exact Int.dvd_natAbs.1 h5
theorem small_d {s c e L:Spt} (h1:e.1.natAbs≤6) (h2:e.2.1.natAbs≤6) (h0:¬ (e.1=0∧e.2.1=0)) (l1:L.1.natAbs≤1) (l2:L.2.1.natAbs≤1) (es:lev e s=0) (ec:lev e c=0) (Lc:lev L c=0) (Ls:lev L s≠0) (hd:0<c.2.2)
  (hr:Int.gcd (Int.gcd c.1 c.2.1) c.2.2=1):c.2.2≤12:=by
 obtain ⟨a,b,g⟩:=e
 obtain ⟨a',b',g'⟩:=L
 obtain ⟨x,y,d⟩:=c
 obtain ⟨sx,sy,sd⟩:=s
 unfold lev at *
 dsimp only at *
 have k1:(a*b'-a'*b)*x=d*(b*g'-b'*g):=by grind
 have k2:(a*b'-a'*b)*y=d*(g*a'-g'*a):=by grind
 have hdv:d ∣ a*b'-a'*b:=dvd_det hr ⟨_,k1⟩ ⟨_,k2⟩
 have hm1:(a*b').natAbs≤6:=by rw [Int.natAbs_mul];exact Nat.le_trans (Nat.mul_le_mul h1 l2) (by omega)
 have hm2:(a'*b).natAbs≤6:=by rw [Int.natAbs_mul];exact Nat.le_trans (Nat.mul_le_mul l1 h2) (by omega)
 by_cases hz:a*b'-a'*b=0
 ·exfalso
  rw [hz,Int.zero_mul] at k1 k2
  have z1:b*g'-b'*g=0:=by rcases Int.mul_eq_zero.1 k1.symm with q | q<;>omega
  have z2:g*a'-g'*a=0:=by rcases Int.mul_eq_zero.1 k2.symm with q | q<;>omega
  have m1:a*(a'*sx+b'*sy+g'*sd)=0:=by grind
  have m2:b*(a'*sx+b'*sy+g'*sd)=0:=by grind
  refine h0 ⟨?_,?_⟩
  ·rcases Int.mul_eq_zero.1 m1 with q | q
   ·exact q
   ·exact absurd q Ls
  ·rcases Int.mul_eq_zero.1 m2 with q | q
   ·exact q
   ·exact absurd q Ls
 ·have:=Int.le_of_dvd (show 0<((a*b'-a'*b).natAbs:Int) by omega) (Int.dvd_natAbs.2 hdv)
  omega
def adS (l:List Spt) (s:Spt):List Spt:=if l.getLast? = some s then l else l++[s]
def redS (s:Spt):Spt:=let k:Int:=if s.2.2<0 then -(Int.gcd (Int.gcd s.1 s.2.1) s.2.2:Int) else Int.gcd (Int.gcd s.1 s.2.1) s.2.2;(s.1 / k,s.2.1 / k,s.2.2 / k)
def crS (h t:Int) (s n:Spt):Spt:=redS (s.1*t-n.1*h,s.2.1*t-n.2.1*h,s.2.2*t-n.2.2*h)
theorem redS_ok {s:Spt} (h:s.2.2≠0):∃ k:Int,(0<k↔0<s.2.2)∧k≠0∧k*(redS s).1=s.1∧k*(redS s).2.1=s.2.1∧k*(redS s).2.2=s.2.2∧Int.gcd (Int.gcd (redS s).1 (redS s).2.1) (redS s).2.2=1:=by
 have hg:Int.gcd (Int.gcd s.1 s.2.1) s.2.2≠0:=fun e=>h (Int.gcd_eq_zero_iff.1 e).2
 obtain ⟨k,hk⟩:∃ k:Int,k=if s.2.2<0 then -(Int.gcd (Int.gcd s.1 s.2.1) s.2.2:Int) else Int.gcd (Int.gcd s.1 s.2.1) s.2.2:=⟨_,rfl⟩
 have hka:k.natAbs=Int.gcd (Int.gcd s.1 s.2.1) s.2.2:=by rw [hk];split<;>omega
 have hk0:k≠0:=by omega
 have d3:k ∣ s.2.2:=by rw [← Int.natAbs_dvd,hka];exact Int.gcd_dvd_right _ _
 have d12:k ∣ (Int.gcd s.1 s.2.1:Int):=by rw [← Int.natAbs_dvd,hka];exact Int.gcd_dvd_left _ _
 have d1:k ∣ s.1:=Int.dvd_trans d12 (Int.gcd_dvd_left _ _)
 have d2:k ∣ s.2.1:=Int.dvd_trans d12 (Int.gcd_dvd_right _ _)
 have e1:=Int.mul_ediv_cancel' d1
 have e2:=Int.mul_ediv_cancel' d2
 have e3:=Int.mul_ediv_cancel' d3
 have er:redS s=(s.1 / k,s.2.1 / k,s.2.2 / k):=by unfold redS;dsimp only;rw [← hk]
 rw [er]
 refine ⟨k,?_,hk0,e1,e2,e3,?_⟩
 ·rw [hk];split<;>omega
 ·dsimp only
  have:=hka
  conv at this=>rhs;rw [← e1,← e2,← e3]
  rw [Int.gcd_mul_left] at this
  have h2:Int.gcd ((k.natAbs*Int.gcd (s.1 / k) (s.2.1 / k):Nat):Int) (k*(s.2.2 / k))=k.natAbs*Int.gcd (Int.gcd (s.1 / k) (s.2.1 / k)) (s.2.2 / k):=by
   have:((k.natAbs*Int.gcd (s.1 / k) (s.2.1 / k):Nat):Int).gcd (k*(s.2.2 / k))=Int.gcd (k*(Int.gcd (s.1 / k) (s.2.1 / k):Int)) (k*(s.2.2 / k)):=by
    have e:Int.natAbs ((k.natAbs*Int.gcd (s.1 / k) (s.2.1 / k):Nat):Int)=Int.natAbs (k*(Int.gcd (s.1 / k) (s.2.1 / k):Int)):=by rw [Int.natAbs_natCast,Int.natAbs_mul,Int.natAbs_natCast]
    show Nat.gcd _ _=Nat.gcd _ _
    rw [e]
   rw [this,Int.gcd_mul_left]
  rw [h2] at this
  have hp:0<k.natAbs:=by omega
  exact (Nat.eq_of_mul_eq_mul_left hp (by rw [← this,Nat.mul_one])).symm
theorem crS_mix {h t:Int} {s n:Spt} (hd:0<s.2.2) (hd2:0<n.2.2) (hh:(0<h∧t<0)∨(h<0∧0<t)):Mix s n (crS h t s n):=by
 rcases hh with ⟨h1,h2⟩ | ⟨h1,h2⟩
 ·have hn:s.2.2*t-n.2.2*h<0:=by
   have:=Int.mul_neg_of_pos_of_neg hd h2
   have:=Int.mul_pos hd2 h1
   omega
  obtain ⟨k,k1,k2,e1,e2,e3,er⟩:=redS_ok (s:=(s.1*t-n.1*h,s.2.1*t-n.2.1*h,s.2.2*t-n.2.2*h)) (by dsimp only;omega)
  refine ⟨⟨-k,-t,h,?_,by omega,by omega,?_,?_,?_⟩,er⟩
  ·dsimp only at k1;omega
  all_goals
   unfold crS
   dsimp only at e1 e2 e3
   grind
 ·have hn:0<s.2.2*t-n.2.2*h:=by
   have:=Int.mul_pos hd h2
   have:=Int.mul_neg_of_pos_of_neg hd2 h1
   omega
  obtain ⟨k,k1,k2,e1,e2,e3,er⟩:=redS_ok (s:=(s.1*t-n.1*h,s.2.1*t-n.2.1*h,s.2.2*t-n.2.2*h)) (by dsimp only;omega)
  refine ⟨⟨k,t,-h,?_,by omega,by omega,?_,?_,?_⟩,er⟩
  ·dsimp only at k1;omega
  all_goals
   unfold crS
   dsimp only at e1 e2 e3
   grind
theorem crS_on {s n:Spt} (L:Spt) (hd:0<s.2.2) (hd2:0<n.2.2) (hh:(0<lev L s∧lev L n<0)∨(lev L s<0∧0<lev L n)):lev L (crS (lev L s) (lev L n) s n)=0:=by
 have hn:s.2.2*lev L n-n.2.2*lev L s≠0:=by
  rcases hh with ⟨h1,h2⟩ | ⟨h1,h2⟩
  ·have:=Int.mul_neg_of_pos_of_neg hd h2
   have:=Int.mul_pos hd2 h1
   omega
  ·have:=Int.mul_pos hd h2
   have:=Int.mul_neg_of_pos_of_neg hd2 h1
   omega
 obtain ⟨k,k1,k2,e1,e2,e3,er⟩:=redS_ok (s:=(s.1*lev L n-n.1*lev L s,s.2.1*lev L n-n.2.1*lev L s,s.2.2*lev L n-n.2.2*lev L s)) hn
 have:k*lev L (crS (lev L s) (lev L n) s n)=0:=by
  unfold crS
  generalize redS _=c at *
  dsimp only at e1 e2 e3
  have ex:k*lev L c=L.1*(k*c.1)+L.2.1*(k*c.2.1)+L.2.2*(k*c.2.2):=by unfold lev;grind
  rw [ex,e1,e2,e3]
  unfold lev
  grind
 rcases Int.mul_eq_zero.1 this with q | q
 ·exact absurd q k2
 ·exact q

abbrev z3:Spt:=(0,0,0)
def clS (L:Spt) (o:List Spt) (s n:Spt):List Spt :=
 let o2:=if 0≤lev L s then adS o s else o
 if (0<lev L s∧lev L n<0)∨(lev L s<0∧0<lev L n) then adS o2 (crS (lev L s) (lev L n) s n) else o2
def clN (L:Spt) (l:List Spt):Nat→List Spt
 | 0=>[]
 | k+1=>clS L (clN L l k) (l.getD k z3) (l.getD ((k+1) % l.length) z3)
def clR (L:Spt) (l:List Spt):List Spt:=clN L l l.length
theorem adS_cases (l:List Spt) (s:Spt):(l.getLast? = some s∧adS l s=l)∨(l.getLast? ≠ some s∧adS l s=l++[s]):=by
 unfold adS
 by_cases h:l.getLast? = some s
 ·exact .inl ⟨h,if_pos h⟩
 ·exact .inr ⟨h,if_neg h⟩
theorem adS_mem {l:List Spt} {s x:Spt} (h:x∈adS l s):x∈l∨x=s:=by
 rcases adS_cases l s with ⟨_,e⟩ | ⟨_,e⟩
 ·rw [e] at h;exact .inl h
 ·rw [e,List.mem_append,List.mem_singleton] at h;exact h
theorem adS_len (l:List Spt) (s:Spt):(adS l s).length≤l.length+1:=by
 rcases adS_cases l s with ⟨_,e⟩ | ⟨_,e⟩
 ·rw [e];omega
 ·rw [e,List.length_append];exact Nat.le_refl _
theorem adS_last (l:List Spt) (s:Spt):(adS l s).getLast? = some s:=by
 rcases adS_cases l s with ⟨h,e⟩ | ⟨_,e⟩
 ·rw [e,h]
 ·rw [e];simp
theorem adS_head (l:List Spt) (s:Spt):(adS l s).head? = if l=[] then some s else l.head? := by
 rcases adS_cases l s with ⟨h,e⟩ | ⟨_,e⟩
 ·rw [e,if_neg (fun e=>by rw [e] at h;cases h)]
 ·rw [e]
  cases l with
  | nil=>rfl
  | cons x l=>rfl
theorem getD_mem3 {l:List Spt} {k:Nat} (h:k<l.length):l.getD k z3∈l:=by simp [List.getD,h]
theorem clS_all {Q:Spt→Prop} (L:Spt) {o:List Spt} {s n:Spt} (hQ:∀ s t c,Q s→Q t→Mix s t c→Q c) (hp:∀ x,Q x→0<x.2.2) (ho:∀ x∈o,Q x) (hs:Q s) (hn:Q n):∀ x∈clS L o s n,Q x:=by
 have h2:∀ x∈(if 0≤lev L s then adS o s else o),Q x:=fun x hx=>by
  split at hx
  ·rcases adS_mem hx with h | h
   ·exact ho x h
   ·rw [h];exact hs
  ·exact ho x hx
 intro x hx
 unfold clS at hx
 dsimp only at hx
 split at hx
 ·rename_i hc
  rcases adS_mem hx with h | h
  ·exact h2 x h
  ·rw [h];exact hQ s n _ hs hn (crS_mix (hp s hs) (hp n hn) hc)
 ·exact h2 x hx
theorem clN_all {Q:Spt→Prop} (L:Spt) {l:List Spt} (hQ:∀ s t c,Q s→Q t→Mix s t c→Q c) (hp:∀ x,Q x→0<x.2.2) (hl:∀ x∈l,Q x):∀ k,k≤l.length→∀ x∈clN L l k,Q x
 | 0,_,x,hx=>by cases hx
 | k+1,h,x,hx=>clS_all L hQ hp (clN_all L hQ hp hl k (by omega)) (hl _ (getD_mem3 (by omega))) (hl _ (getD_mem3 (Nat.mod_lt _ (by omega)))) x hx
theorem clS_len (L:Spt) (o:List Spt) (s n:Spt):(clS L o s n).length≤o.length+2:=by
 unfold clS
 dsimp only
 have h2:(if 0≤lev L s then adS o s else o).length≤o.length+1:=by
  split
  ·exact adS_len _ _
  ·omega
 split
 ·exact Nat.le_trans (adS_len _ _) (by omega)
 ·omega
theorem clN_len (L:Spt) (l:List Spt):∀ k,(clN L l k).length≤2*k
 | 0=>Nat.le_refl _
 | k+1=>by
  have:=clN_len L l k
  exact Nat.le_trans (clS_len L _ _ _) (by omega)
inductive Ach:List Spt→Prop
 | nil:Ach []
 | app {l:List Spt} {s:Spt} (h:Ach l) (e:∀ z,l.getLast? = some z→Eg z s):Ach (l++[s])
theorem Ach.adS {l:List Spt} {s:Spt} (h:Ach l) (e:∀ z,l.getLast? = some z→Eg z s):Ach (adS l s):=by
 rcases adS_cases l s with ⟨_,q⟩ | ⟨_,q⟩
 ·rw [q];exact h
 ·rw [q];exact .app h e
theorem getD_app3 {l:List Spt} {c:Spt} {i:Nat} (h:i<l.length):(l++[c]).getD i z3=l.getD i z3:=by
 simp [List.getD,List.getElem?_append_left h]
theorem getD_last3 {l:List Spt} (h:0<l.length):l.getLast? = some (l.getD (l.length-1) z3):=by
 rw [List.getLast?_eq_getElem?]
 have:l.length-1<l.length:=by omega
 simp [List.getD,this]
theorem Ach.get {l:List Spt} (h:Ach l):∀ i,i+1<l.length→Eg (l.getD i z3) (l.getD (i+1) z3):=by
 induction h with
 | nil=>intro i hi;simp at hi
 | @app l s h e ih =>
  intro i hi
  rw [List.length_append,List.length_singleton] at hi
  rw [getD_app3 (by omega)]
  by_cases hx:i+1<l.length
  ·rw [getD_app3 hx];exact ih i hx
  ·have e1:(l++[s]).getD (i+1) z3=s:=by
    rw [show i+1=l.length by omega];simp [List.getD]
   rw [e1]
   refine e _ ?_
   rw [getD_last3 (by omega),show l.length-1=i by omega]
def Rel (L z s:Spt):Prop:=if lev L s<0 then lev L z=0 else Eg z s
structure Poly (l:List Spt):Prop where
 d0:∀ x∈l,0<x.2.2
 d12:∀ x∈l,x.2.2≤12
 eg:∀ i,i<l.length→Eg (l.getD i z3) (l.getD ((i+1) % l.length) z3)
theorem eg_line {L s t:Spt} (l1:L.1.natAbs≤1) (l2:L.2.1.natAbs≤1) (l0:¬ (L.1=0∧L.2.1=0)) (h1:lev L s=0) (h2:lev L t=0):Eg s t:=⟨L,by omega,by omega,l0,h1,h2⟩
theorem Eg.mix {s t c:Spt} (h:Eg s t) (hm:Mix s t c):Eg s c∧Eg c t:=by
 obtain ⟨e,a,b,z,h1,h2⟩:=h
 have:=hm.zero e h1 h2
 exact ⟨⟨e,a,b,z,h1,this⟩,⟨e,a,b,z,this,h2⟩⟩
structure Inv (L s0:Spt) (k:Nat) (o:List Spt) (s:Spt):Prop where
 d:∀ x∈o,x.2.2≤12
 a:Ach o
 r:∀ z,o.getLast? = some z→Rel L z s
 e:o=[]→k=0∨lev L s≤0
 z:k=0→o=[]∧s=s0
 p:0≤lev L s0→0<k→o.head? = some s0
 n:lev L s0<0→∀ f,o.head? = some f→lev L f=0
theorem adS_ne (l:List Spt) (s:Spt):adS l s≠[]:=fun e=>by
 have:=adS_last l s
 rw [e] at this
 cases this
theorem inv_step {L s0 s n:Spt} {k:Nat} {o:List Spt} (l1:L.1.natAbs≤1) (l2:L.2.1.natAbs≤1) (l0:¬ (L.1=0∧L.2.1=0)) (h:Inv L s0 k o s) (hd1:0<s.2.2) (hd2:0<n.2.2) (hc:s.2.2≤12) (eg:Eg s n):Inv L s0 (k+1) (clS L o s n) n:=by
 obtain ⟨o2,ho2⟩:∃ o2,o2=if 0≤lev L s then adS o s else o:=⟨_,rfl⟩
 have A:(∀ x∈o2,x.2.2≤12)∧Ach o2∧(0≤lev L s→o2.getLast? = some s)∧(lev L s<0→∀ z,o2.getLast? = some z→lev L z=0)∧(0≤lev L s0→o2.head? = some s0)∧(lev L s0<0→∀ f,o2.head? = some f→lev L f=0):=by
  by_cases hs:0≤lev L s
  ·rw [if_pos hs] at ho2
   subst ho2
   refine ⟨fun x hx=>?_,h.a.adS fun z hz=>?_,fun _=>adS_last o s,fun q=>by omega,fun q=>?_,fun q f hf=>?_⟩
   ·rcases adS_mem hx with q | q
    ·exact h.d x q
    ·rw [q];exact hc
   ·have:=h.r z hz
    unfold Rel at this
    rwa [if_neg (by omega)] at this
   ·rw [adS_head]
    by_cases k0:k=0
    ·obtain ⟨z1,z2⟩:=h.z k0
     rw [if_pos z1,z2]
    ·have:=h.p q (by omega)
     rw [if_neg (fun e=>by rw [e] at this;cases this),this]
   ·rw [adS_head] at hf
    by_cases ho:o=[]
    ·rw [if_pos ho] at hf
     have e:s=f:=Option.some.inj hf
     rcases h.e ho with k0 | k0
     ·have:=(h.z k0).2
      rw [this] at hs
      omega
     ·rw [← e];omega
    ·rw [if_neg ho] at hf
     exact h.n q f hf
  ·rw [if_neg hs] at ho2
   subst ho2
   refine ⟨h.d,h.a,fun q=>absurd q hs,fun _ z hz=>?_,fun q=>?_,h.n⟩
   ·have:=h.r z hz
    unfold Rel at this
    rwa [if_pos (by omega)] at this
   ·refine h.p q ?_
    by_cases k0:k=0
    ·have:=(h.z k0).2
     rw [this] at hs
     omega
    ·omega
 obtain ⟨A1,A2,A3,A4,A5,A6⟩:=A
 have e1:clS L o s n=if (0<lev L s∧lev L n<0)∨(lev L s<0∧0<lev L n) then adS o2 (crS (lev L s) (lev L n) s n) else o2:=by unfold clS;dsimp only;rw [← ho2]
 rw [e1]
 by_cases hx:(0<lev L s∧lev L n<0)∨(lev L s<0∧0<lev L n)
 ·rw [if_pos hx]
  have hm:=crS_mix hd1 hd2 hx
  have hon:=crS_on L hd1 hd2 hx
  generalize crS (lev L s) (lev L n) s n=c at *
  obtain ⟨g1,g2⟩:=eg.mix hm
  have hc12:c.2.2≤12:=by
   obtain ⟨e,a,b,zz,h1,h2⟩:=g1
   have hk0:0<c.2.2:=by
    obtain ⟨kk,p,q,hk,hp,hq,_,_,e3⟩:=hm.ex
    have x1:=Int.mul_pos hp hd1
    have x2:=Int.mul_pos hq hd2
    exact Int.pos_of_mul_pos_right (a:=kk) (by rw [e3];omega) hk
   exact small_d a b zz l1 l2 h1 h2 hon (by rcases hx with q | q<;>omega) hk0 hm.red
  refine ⟨fun x hx2=>?_,A2.adS fun z hz=>?_,fun z hz=>?_,fun e=>absurd e (adS_ne _ _),fun e=>by omega,fun q _=>?_,fun q f hf=>?_⟩
  ·rcases adS_mem hx2 with q | q
   ·exact A1 x q
   ·rw [q];exact hc12
  ·rcases hx with q | q
   ·have:=A3 (by omega)
    rw [this] at hz
    rw [← Option.some.inj hz];exact g1
   ·exact eg_line l1 l2 l0 (A4 q.1 z hz) hon
  ·rw [adS_last] at hz
   rw [← Option.some.inj hz]
   unfold Rel
   split
   ·exact hon
   ·exact g2
  ·have:=A5 q
   rw [adS_head,if_neg (fun e=>by rw [e] at this;cases this),this]
  ·rw [adS_head] at hf
   by_cases ho:o2=[]
   ·rw [if_pos ho] at hf
    rw [← Option.some.inj hf];exact hon
   ·rw [if_neg ho] at hf
    exact A6 q f hf
 ·rw [if_neg hx]
  refine ⟨A1,A2,fun z hz=>?_,fun e=>?_,fun e=>by omega,fun q _=>A5 q,A6⟩
  ·unfold Rel
   by_cases hs:0≤lev L s
   ·have:=A3 hs
    rw [this] at hz
    rw [← Option.some.inj hz]
    split
    ·omega
    ·exact eg
   ·have:=A4 (by omega) z hz
    split
    ·exact this
    ·exact eg_line l1 l2 l0 this (by omega)
  ·by_cases hs:0≤lev L s
   ·have:=A3 hs
    rw [e] at this
    cases this
   ·right;omega
theorem clN_inv {L:Spt} {l:List Spt} (l1:L.1.natAbs≤1) (l2:L.2.1.natAbs≤1) (l0:¬ (L.1=0∧L.2.1=0)) (h:Poly l):∀ k,k≤l.length→Inv L (l.getD 0 z3) k (clN L l k) (l.getD (k % l.length) z3)
 | 0,_=>⟨fun x hx=>(by cases hx),Ach.nil,fun z hz=>(by cases hz),fun _=>Or.inl rfl,fun _=>⟨rfl,(by rw [Nat.zero_mod])⟩,fun _ h=>absurd h (by omega),fun _ f hf=>(by cases hf)⟩
 | k+1,hk=>by
  have ih:=clN_inv l1 l2 l0 h k (by omega)
  have hkl:k<l.length:=by omega
  have hnl:(k+1) % l.length<l.length:=Nat.mod_lt _ (by omega)
  rw [Nat.mod_eq_of_lt hkl] at ih
  exact inv_step l1 l2 l0 ih (h.d0 _ (getD_mem3 hkl)) (h.d0 _ (getD_mem3 hnl)) (h.d12 _ (getD_mem3 hkl)) (h.eg k hkl)
theorem mix_d {s t c:Spt} (h1:0<s.2.2) (h2:0<t.2.2) (hm:Mix s t c):0<c.2.2:=by
 obtain ⟨kk,p,q,hk,hp,hq,_,_,e3⟩:=hm.ex
 have x1:=Int.mul_pos hp h1
 have x2:=Int.mul_pos hq h2
 exact Int.pos_of_mul_pos_right (a:=kk) (by rw [e3];omega) hk
theorem clR_poly {L:Spt} {l:List Spt} (l1:L.1.natAbs≤1) (l2:L.2.1.natAbs≤1) (l0:¬ (L.1=0∧L.2.1=0)) (h:Poly l):Poly (clR L l):=by
 have hI:=clN_inv l1 l2 l0 h l.length (Nat.le_refl _)
 have hd:=clN_all (Q:=fun x=>0<x.2.2) L (fun s t c h1 h2 hm=>mix_d h1 h2 hm) (fun x hx=>hx) h.d0 l.length (Nat.le_refl _)
 unfold clR
 rw [Nat.mod_self] at hI
 refine ⟨hd,hI.d,fun i hi=>?_⟩
 by_cases e:i+1<(clN L l l.length).length
 ·rw [Nat.mod_eq_of_lt e];exact hI.a.get i e
 ·rw [show i+1=(clN L l l.length).length by omega,Nat.mod_self,show i=(clN L l l.length).length-1 by omega]
  have hl:=getD_last3 (show 0<(clN L l l.length).length by omega)
  have hr:=hI.r _ hl
  have hl0:l.length≠0:=fun e=>by
   rw [e] at hi
   exact absurd hi (by unfold clN;simp)
  have hh:(clN L l l.length).head? = some ((clN L l l.length).getD 0 z3):=by
   generalize clN L l l.length=o at *
   cases o with
   | nil=>simp at hi
   | cons x o=>rfl
  unfold Rel at hr
  by_cases hs:lev L (l.getD 0 z3)<0
  ·rw [if_pos hs] at hr
   exact eg_line l1 l2 l0 hr (hI.n hs _ hh)
  ·rw [if_neg hs] at hr
   have:=hI.p (by omega) (by omega)
   rw [hh] at this
   rw [Option.some.inj this];exact hr
end Go.Proofs.YtechphmljdgoaaaGreatDoor
namespace Go.Proofs.YtechphmljdgoaaaGreatDoor
def dt3 (p q r:Spt):Int:=p.1*(q.2.1*r.2.2-q.2.2*r.2.1)-p.2.1*(q.1*r.2.2-q.2.2*r.1)+p.2.2*(q.1*r.2.1-q.2.1*r.1)
theorem dt3_rot (p q r:Spt):dt3 p q r=dt3 r p q:=by unfold dt3;grind
theorem dt3_mix3 {s t c:Spt} (h:Mix s t c) (x y:Spt) (h1:0≤dt3 x y s) (h2:0≤dt3 x y t):0≤dt3 x y c:=by
 have e:∀ z,dt3 x y z=lev (x.2.1*y.2.2-x.2.2*y.2.1,x.2.2*y.1-x.1*y.2.2,x.1*y.2.1-x.2.1*y.1) z:=fun z=>by unfold dt3 lev;grind
 rw [e] at h1 h2 ⊢
 exact h.nn _ h1 h2
theorem dt3_mix1 {s t c:Spt} (h:Mix s t c) (x y:Spt) (h1:0≤dt3 s x y) (h2:0≤dt3 t x y):0≤dt3 c x y:=by
 rw [← dt3_rot] at *
 exact dt3_mix3 h x y h1 h2
theorem dt3_mix2 {s t c:Spt} (h:Mix s t c) (x y:Spt) (h1:0≤dt3 x s y) (h2:0≤dt3 x t y):0≤dt3 x c y:=by
 rw [dt3_rot] at *
 exact dt3_mix3 h y x h1 h2
inductive Tr:List Spt→Prop
 | nil:Tr []
 | app {o:List Spt} {s:Spt} (h:Tr o) (e:o.Pairwise fun x y=>0≤dt3 x y s):Tr (o++[s])
theorem Tr.get {o:List Spt} (h:Tr o):∀ i j k,i<j→j<k→k<o.length→0≤dt3 (o.getD i z3) (o.getD j z3) (o.getD k z3):=by
 induction h with
 | nil=>intro i j k _ _ h;simp at h
 | @app o s h e ih =>
  intro i j k hij hjk hk
  rw [List.length_append,List.length_singleton] at hk
  rw [getD_app3 (show i<o.length by omega),getD_app3 (show j<o.length by omega)]
  by_cases hx:k<o.length
  ·rw [getD_app3 hx];exact ih i j k hij hjk hx
  ·have e1:(o++[s]).getD k z3=s:=by
    rw [show k=o.length by omega];simp [List.getD]
   rw [e1]
   have:=List.pairwise_iff_getElem.1 e i j (by omega) (by omega) hij
   have hi:o.getD i z3=o[i]'(by omega):=by simp [List.getD,show i<o.length by omega]
   have hj:o.getD j z3=o[j]'(by omega):=by simp [List.getD,show j<o.length by omega]
   rw [hi,hj];exact this
structure Cv (v:Nat→Spt) (n k:Nat) (o:List Spt):Prop where
 t1:Tr o
 t2:∀ m,k≤m→m≤n→o.Pairwise fun x y=>0≤dt3 x y (v m)
 t3:∀ x∈o,∀ a b,k≤a→a≤b→b≤n→0≤dt3 x (v a) (v b)
 t4:∀ a b c,k≤a→a≤b→b≤c→c≤n→0≤dt3 (v a) (v b) (v c)
theorem pw_app {o:List Spt} {s:Spt} {R:Spt→Spt→Prop} (h:o.Pairwise R) (hs:∀ x∈o,R x s):(o++[s]).Pairwise R:=by
 rw [List.pairwise_append]
 refine ⟨h,by simp,fun a ha b hb=>?_⟩
 rw [List.mem_singleton.1 hb];exact hs a ha
theorem Cv.next {v:Nat→Spt} {n k:Nat} {o:List Spt} (h:Cv v n k o):Cv v n (k+1) o :=
 ⟨h.t1,fun m a b=>h.t2 m (by omega) b,fun x hx a b p q r=>h.t3 x hx a b (by omega) q r,fun a b c p q r s=>h.t4 a b c (by omega) q r s⟩
theorem Cv.add {v:Nat→Spt} {n k:Nat} {o:List Spt} (h:Cv v n k o) (hk:k≤n):Cv v n k (adS o (v k)):=by
 rcases adS_cases o (v k) with ⟨_,e⟩ | ⟨_,e⟩
 ·rw [e];exact h
 ·rw [e]
  refine ⟨.app h.t1 (h.t2 k (Nat.le_refl _) hk),fun m a b=>pw_app (h.t2 m a b) fun x hx=>h.t3 x hx k m (Nat.le_refl _) a b,fun x hx a b p q r=>?_,h.t4⟩
  rcases List.mem_append.1 hx with hx | hx
  ·exact h.t3 x hx a b p q r
  ·rw [List.mem_singleton.1 hx];exact h.t4 k a b (Nat.le_refl _) p q r
theorem Cv.cross {v:Nat→Spt} {n k:Nat} {o:List Spt} {c:Spt} (h:Cv v n k o) (hk:k+1≤n) (hm:Mix (v k) (v (k+1)) c):Cv v n (k+1) (adS o c):=by
 rcases adS_cases o c with ⟨_,e⟩ | ⟨_,e⟩
 ·rw [e];exact h.next
 ·rw [e]
  refine ⟨.app h.t1 ?_,fun m a b=>pw_app (h.t2 m (by omega) b) fun x hx=>?_,fun x hx a b p q r=>?_,h.next.t4⟩
  ·have p1:=h.t2 k (Nat.le_refl _) (by omega)
   have p2:=h.t2 (k+1) (by omega) hk
   exact (p1.and p2).imp fun {x y} hxy=>dt3_mix3 hm x y hxy.1 hxy.2
  ·exact dt3_mix2 hm x (v m) (h.t3 x hx k m (by omega) (by omega) b) (h.t3 x hx (k+1) m (by omega) a b)
  ·rcases List.mem_append.1 hx with hx | hx
   ·exact h.t3 x hx a b (by omega) q r
   ·rw [List.mem_singleton.1 hx]
    exact dt3_mix1 hm _ _ (h.t4 k a b (by omega) (by omega) q r) (h.t4 (k+1) a b (by omega) p q r)
theorem Cv.step {v:Nat→Spt} {n k:Nat} {o:List Spt} {L:Spt} (h:Cv v n k o) (hk:k+1≤n) (d1:0<(v k).2.2) (d2:0<(v (k+1)).2.2):Cv v n (k+1) (clS L o (v k) (v (k+1))):=by
 have h2:Cv v n k (if 0≤lev L (v k) then adS o (v k) else o):=by
  split
  ·exact h.add (by omega)
  ·exact h
 unfold clS
 dsimp only
 split
 ·rename_i hc
  exact h2.cross hk (crS_mix d1 d2 hc)
 ·exact h2.next
theorem cvx_trn {l:List (Int×Int)} (h:Cvx l) {i j:Nat} (hij:i<j):∀ k,j<k→k<l.length→0<trn (l.getD i (0,0)) (l.getD j (0,0)) (l.getD k (0,0)):=by
 intro k
 induction k with
 | zero=>intro h;omega
 | succ k ih =>
  intro hjk hk
  have hs:∀ m,i+1<m→m<l.length→0<trn (l.getD i (0,0)) (l.getD (i+1) (0,0)) (l.getD m (0,0)):=fun m hm hml=>by
   have:=h i m (by omega) hml (by omega) (by rw [Nat.mod_eq_of_lt (by omega)];omega)
   rwa [Nat.mod_eq_of_lt (show i+1<l.length by omega)] at this
  have hc:0<trn (l.getD k (0,0)) (l.getD (k+1) (0,0)) (l.getD i (0,0)):=by
   have:=h k i (by omega) (by omega) (by omega) (by rw [Nat.mod_eq_of_lt hk];omega)
   rwa [Nat.mod_eq_of_lt hk] at this
  have hc2:0<trn (l.getD i (0,0)) (l.getD k (0,0)) (l.getD (k+1) (0,0)):=by
   have e:trn (l.getD k (0,0)) (l.getD (k+1) (0,0)) (l.getD i (0,0))=trn (l.getD i (0,0)) (l.getD k (0,0)) (l.getD (k+1) (0,0)):=by unfold trn;grind
   omega
  by_cases e:j=k
  ·rw [e];exact hc2
  ·have ih:=ih (by omega) (by omega)
   by_cases ej:j=i+1
   ·rw [ej];exact hs (k+1) (by omega) hk
   have g1:=hs j (by omega) (by omega)
   have g2:=hs k (by omega) (by omega)
   have g3:=hs (k+1) (by omega) hk
   generalize l.getD i (0,0)=a at *
   generalize l.getD (i+1) (0,0)=b at *
   generalize l.getD j (0,0)=u at *
   generalize l.getD k (0,0)=w at *
   generalize l.getD (k+1) (0,0)=x at *
   have e:trn a b w*trn a u x=trn a b u*trn a w x+trn a b x*trn a u w:=by unfold trn;grind
   have m1:=Int.mul_pos g1 hc2
   have m2:=Int.mul_pos g3 ih
   exact Int.pos_of_mul_pos_right (a:=trn a b w) (by omega) g2
def spS (l:List (Int×Int)):List Spt:=l.map fun p=>(p.1,p.2,1)
theorem spS_getD {l:List (Int×Int)} {i:Nat} (h:i<l.length):(spS l).getD i z3=((l.getD i (0,0)).1,(l.getD i (0,0)).2,1):=by simp [spS,List.getD,h]
theorem spS_len (l:List (Int×Int)):(spS l).length=l.length:=List.length_map _
theorem spS_poly {l:List (Int×Int)} (h3:3≤l.length) (h:Cvx l) (hb:∀ p∈l,0≤p.1∧p.1≤6∧0≤p.2∧p.2≤6):Poly (spS l):=by
 refine ⟨fun x hx=>?_,fun x hx=>?_,fun i hi=>?_⟩
 ·obtain ⟨p,_,rfl⟩:=List.mem_map.1 hx;exact Int.one_pos
 ·obtain ⟨p,_,rfl⟩:=List.mem_map.1 hx;show (1:Int)≤12;omega
 ·rw [spS_len] at hi ⊢
  have hn:(i+1) % l.length<l.length:=Nat.mod_lt _ (by omega)
  rw [spS_getD hi,spS_getD hn]
  have m1:l.getD i (0,0)∈l:=by simp [List.getD,hi]
  have m2:l.getD ((i+1) % l.length) (0,0)∈l:=by simp [List.getD,hn]
  have b1:=hb _ m1
  have b2:=hb _ m2
  have hne:¬ (l.getD i (0,0)=l.getD ((i+1) % l.length) (0,0)):=fun e=>by
   obtain ⟨k,hk,k1,k2⟩:∃ k,k<l.length∧k≠i∧k≠(i+1) % l.length:=by
    by_cases a0:0≠i∧0≠(i+1) % l.length
    ·exact ⟨0,by omega,a0.1,a0.2⟩
    by_cases a1:1≠i∧1≠(i+1) % l.length
    ·exact ⟨1,by omega,a1.1,a1.2⟩
    ·exact ⟨2,by omega,by omega,by omega⟩
   have:=h i k hi hk k1 k2
   rw [← e] at this
   unfold trn at this
   grind
  generalize l.getD i (0,0)=a at *
  generalize l.getD ((i+1) % l.length) (0,0)=b at *
  refine ⟨(-(b.2-a.2),b.1-a.1,(b.2-a.2)*a.1-(b.1-a.1)*a.2),by dsimp only;omega,by dsimp only;omega,fun e=>hne ?_,by unfold lev;dsimp only;grind,by unfold lev;dsimp only;grind⟩
  dsimp only at e
  exact Prod.ext (by omega) (by omega)
end Go.Proofs.YtechphmljdgoaaaGreatDoor
namespace Go.Proofs.YtechphmljdgoaaaGreatDoor
abbrev RP:=Rat×Rat
def rp (s:Spt):RP:=((s.1:Rat) / (s.2.2:Rat),(s.2.1:Rat) / (s.2.2:Rat))
def dtr (p q r:RP):Rat:=(q.1-p.1)*(r.2-p.2)-(q.2-p.2)*(r.1-p.1)
def lv (L:Spt) (p:RP):Rat:=(L.1:Rat)*p.1+(L.2.1:Rat)*p.2+(L.2.2:Rat)
structure Fn (F:RP→RP→Rat):Prop where
 anti:∀ p q,F q p=- F p q
 coll:∀ p m q,dtr p m q=0→F p q=F p m+F m q
theorem Fn.self {F:RP→RP→Rat} (h:Fn F) (p:RP):F p p=0:=by have:=h.anti p p;grind
def cr (L:Spt) (p q:RP):RP:=(p.1+lv L p / (lv L p-lv L q)*(q.1-p.1),p.2+lv L p / (lv L p-lv L q)*(q.2-p.2))
theorem cr_lin (L:Spt) (p q:RP):∃ s,cr L p q=(p.1+s*(q.1-p.1),p.2+s*(q.2-p.2)):=⟨_,rfl⟩
theorem cr_lv {L:Spt} {p q:RP} (h:lv L p≠lv L q):lv L (cr L p q)=0:=by
 have hd:lv L p-lv L q≠0:=by grind
 have e:=Rat.div_mul_cancel (a:=lv L p) hd
 unfold cr
 generalize lv L p / (lv L p-lv L q)=s at *
 unfold lv at *
 dsimp only at *
 grind
theorem qcancel {a x y:Rat} (ha:a≠0) (h:a*x=a*y):x=y:=by
 have:a*(x-y)=0:=by grind
 rcases Rat.mul_eq_zero.1 this with q | q
 ·exact absurd q ha
 ·grind
theorem cr_uniq {L:Spt} {p m q:RP} (h:lv L p≠lv L q) (hm:dtr p m q=0) (h0:lv L m=0):m=cr L p q:=by
 have hd:lv L p-lv L q≠0:=by grind
 have e:=Rat.div_mul_cancel (a:=lv L p) hd
 unfold cr
 generalize lv L p / (lv L p-lv L q)=s at *
 refine Prod.ext (qcancel hd ?_) (qcancel hd ?_)
 all_goals
  dsimp only
  unfold lv dtr at *
  grind
theorem cr_symm {L:Spt} {p q:RP} (h:lv L p≠lv L q):cr L q p=cr L p q:=by
 refine cr_uniq h ?_ (cr_lv (fun e=>h e.symm))
 obtain ⟨s,e⟩:=cr_lin L q p
 rw [e];unfold dtr;grind
def ct (L:Spt) (o:RP) (F:RP→RP→Rat) (p q:RP):Rat :=
 if 0≤lv L p then (if 0≤lv L q then F p q else F p (cr L p q)+F (cr L p q) o) else (if 0≤lv L q then F o (cr L p q)+F (cr L p q) q else 0)
theorem ct_fn {L:Spt} {o:RP} {F:RP→RP→Rat} (h:Fn F):Fn (ct L o F):=by
 refine ⟨fun p q=>?_,fun p m q hc=>?_⟩
 ·unfold ct
  by_cases hp:0≤lv L p<;>by_cases hq:0≤lv L q
  ·simp only [if_pos hp,if_pos hq];exact h.anti p q
  ·simp only [if_pos hp,if_neg hq]
   rw [cr_symm (by grind),h.anti (cr L p q) o,h.anti p (cr L p q)];grind
  ·simp only [if_neg hp,if_pos hq]
   rw [cr_symm (by grind),h.anti o (cr L p q),h.anti (cr L p q) q];grind
  ·simp only [if_neg hp,if_neg hq];grind
 ·have on1:∀ s:Rat,dtr p (m.1+s*(q.1-m.1),m.2+s*(q.2-m.2)) q=0:=fun s=>by unfold dtr at *;grind
  have on2:∀ s:Rat,dtr p (p.1+s*(m.1-p.1),p.2+s*(m.2-p.2)) q=0:=fun s=>by unfold dtr at *;grind
  have on3:∀ s:Rat,dtr p m (p.1+s*(q.1-p.1),p.2+s*(q.2-p.2))=0:=fun s=>by unfold dtr at *;grind
  have on4:∀ s:Rat,dtr p (m.1+s*(q.1-m.1),m.2+s*(q.2-m.2)) m=0:=fun s=>by unfold dtr at *;grind
  have on5:∀ s:Rat,dtr (p.1+s*(q.1-p.1),p.2+s*(q.2-p.2)) m q=0:=fun s=>by unfold dtr at *;grind
  unfold ct
  by_cases hp:0≤lv L p<;>by_cases hm:0≤lv L m<;>by_cases hq:0≤lv L q
  ·simp only [if_pos hp,if_pos hm,if_pos hq];exact h.coll p m q hc
  ·simp only [if_pos hp,if_pos hm,if_neg hq]
   obtain ⟨s,e⟩:=cr_lin L m q
   obtain ⟨t,f⟩:=cr_lin L p q
   have:cr L m q=cr L p q:=cr_uniq (by grind) (by rw [e];exact on1 s) (cr_lv (by grind))
   rw [this,h.coll p m (cr L p q) (by rw [f];exact on3 t)];grind
  ·simp only [if_pos hp,if_neg hm,if_pos hq]
   obtain ⟨s,e⟩:=cr_lin L m q
   obtain ⟨t,f⟩:=cr_lin L p m
   have:cr L m q=cr L p m:=cr_uniq (by grind) (by rw [e];exact on4 s) (cr_lv (by grind))
   rw [this,h.coll p (cr L p m) q (by rw [f];exact on2 t),h.anti o (cr L p m)];grind
  ·simp only [if_pos hp,if_neg hm,if_neg hq]
   obtain ⟨s,e⟩:=cr_lin L p m
   have:cr L p m=cr L p q:=cr_uniq (by grind) (by rw [e];exact on2 s) (cr_lv (by grind))
   rw [this];grind
  ·simp only [if_neg hp,if_pos hm,if_pos hq]
   obtain ⟨s,e⟩:=cr_lin L p m
   obtain ⟨t,f⟩:=cr_lin L p q
   have:cr L p m=cr L p q:=cr_uniq (by grind) (by rw [e];exact on2 s) (cr_lv (by grind))
   rw [this,h.coll (cr L p q) m q (by rw [f];exact on5 t)];grind
  ·simp only [if_neg hp,if_pos hm,if_neg hq]
   obtain ⟨s,e⟩:=cr_lin L m q
   have:cr L m q=cr L p m:=cr_uniq (by grind) (by rw [e];exact on4 s) (cr_lv (by grind))
   rw [this,h.anti o (cr L p m),h.anti (cr L p m) m];grind
  ·simp only [if_neg hp,if_neg hm,if_pos hq]
   obtain ⟨s,e⟩:=cr_lin L m q
   have:cr L m q=cr L p q:=cr_uniq (by grind) (by rw [e];exact on1 s) (cr_lv (by grind))
   rw [this];grind
  ·simp only [if_neg hp,if_neg hm,if_neg hq];grind
def qsum:Nat→(Nat→Rat)→Rat
 | 0,_=>0
 | n+1,f=>qsum n f+f n
def pth (F:RP→RP→Rat):RP→List Spt→Rat
 | _,[]=>0
 | p,x::l=>F p (rp x)+pth F (rp x) l
def lastR:RP→List Spt→RP
 | p,[]=>p
 | _,x::l=>lastR (rp x) l
theorem lastR_app:∀ (p:RP) (l:List Spt) (x:Spt),lastR p (l++[x])=rp x
 | _,[],_=>rfl
 | _,y::l,x=>lastR_app (rp y) l x
theorem pth_app (F:RP→RP→Rat):∀ (p:RP) (l:List Spt) (x:Spt),pth F p (l++[x])=pth F p l+F (lastR p l) (rp x)
 | p,[],x=>by show F p (rp x)+0=0+F p (rp x);grind
 | p,y::l,x=>by
  show F p (rp y)+pth F (rp y) (l++[x])=F p (rp y)+pth F (rp y) l+F (lastR (rp y) l) (rp x)
  rw [pth_app F (rp y) l x];grind
theorem lastR_last {p:RP} {l:List Spt} {z:Spt} (h:l.getLast? = some z):lastR p l=rp z:=by
 induction l generalizing p with
 | nil=>cases h
 | cons x l ih =>
  show lastR (rp x) l=rp z
  cases l with
  | nil=>simp at h;rw [h];rfl
  | cons y l=>exact ih (by rw [← h];simp)
theorem adS_pth {F:RP→RP→Rat} (h:Fn F) (p:RP) (o:List Spt) (s:Spt):pth F p (adS o s)=pth F p o+F (lastR p o) (rp s)∧lastR p (adS o s)=rp s:=by
 rcases adS_cases o s with ⟨q,e⟩ | ⟨_,e⟩
 ·rw [e,lastR_last q,h.self];grind
 ·rw [e,pth_app,lastR_app];exact ⟨rfl,rfl⟩
def cyc (F:RP→RP→Rat) (l:List Spt):Rat:=qsum l.length fun i=>F (rp (l.getD i z3)) (rp (l.getD ((i+1) % l.length) z3))
theorem pth_sum (F:RP→RP→Rat) (x:Spt) (l:List Spt):∀ k,k≤l.length→pth F (rp x) (l.take k)=qsum k (fun i=>F (rp ((x::l).getD i z3)) (rp ((x::l).getD (i+1) z3)))∧lastR (rp x) (l.take k)=rp ((x::l).getD k z3)
 | 0,_=>⟨rfl,rfl⟩
 | k+1,h=>by
  obtain ⟨a,b⟩:=pth_sum F x l k (by omega)
  have hk:k<l.length:=by omega
  have e:l.take (k+1)=l.take k++[l.getD k z3]:=by
   rw [List.take_add_one];simp [List.getD,hk]
  rw [e,pth_app,lastR_app,a,b]
  exact ⟨rfl,rfl⟩
theorem qsum_congr {n:Nat} {f g:Nat→Rat} (h:∀ i,i<n→f i=g i):qsum n f=qsum n g:=by
 induction n with
 | zero=>rfl
 | succ n ih =>
  show qsum n f+f n=qsum n g+g n
  rw [ih (fun i hi=>h i (by omega)),h n (by omega)]
theorem cyc_cons (F:RP→RP→Rat) (x:Spt) (l:List Spt):cyc F (x::l)=pth F (rp x) l+F (lastR (rp x) l) (rp x):=by
 obtain ⟨a,b⟩:=pth_sum F x l l.length (Nat.le_refl _)
 rw [List.take_length] at a b
 rw [a,b]
 unfold cyc
 show qsum l.length _+F (rp ((x::l).getD l.length z3)) (rp ((x::l).getD ((l.length+1) % (l.length+1)) z3))=_
 rw [Nat.mod_self]
 congr 1
 refine qsum_congr fun i hi=>?_
 rw [show (x::l).length=l.length+1 from rfl,Nat.mod_eq_of_lt (by omega)]
end Go.Proofs.YtechphmljdgoaaaGreatDoor
namespace Go.Proofs.YtechphmljdgoaaaGreatDoor
theorem rp_mul {s:Spt} (h:0<s.2.2):(s.1:Rat)=(rp s).1*(s.2.2:Rat)∧(s.2.1:Rat)=(rp s).2*(s.2.2:Rat)∧(0:Rat)<(s.2.2:Rat):=by
 have h0:(s.2.2:Rat)≠0:=fun e=>by have:=Rat.intCast_inj.1 (show ((s.2.2:Int):Rat)=((0:Int):Rat) from e);omega
 exact ⟨(Rat.div_mul_cancel h0).symm,(Rat.div_mul_cancel h0).symm,Rat.intCast_lt_intCast.2 h⟩
theorem lev_lv (L:Spt) {s:Spt} (h:0<s.2.2):((lev L s:Int):Rat)=(s.2.2:Rat)*lv L (rp s):=by
 obtain ⟨a,b,c⟩:=rp_mul h
 unfold lev lv
 rw [Rat.intCast_add,Rat.intCast_add,Rat.intCast_mul,Rat.intCast_mul,Rat.intCast_mul,a,b]
 grind
theorem lev_sgn (L:Spt) {s:Spt} (h:0<s.2.2):(0≤lev L s↔0≤lv L (rp s))∧(lev L s=0↔lv L (rp s)=0):=by
 have e:=lev_lv L h
 obtain ⟨_,_,c⟩:=rp_mul h
 refine ⟨⟨fun q=>?_,fun q=>?_⟩,fun q=>?_,fun q=>?_⟩
 ·have q2:(0:Rat)≤(lev L s:Int):=Rat.intCast_le_intCast.2 q
  refine Rat.not_lt.1 fun hl=>?_
  have:=Rat.mul_lt_mul_of_pos_left hl c
  grind
 ·refine Int.not_lt.1 fun hl=>?_
  have q2:((lev L s:Int):Rat)<((0:Int):Rat):=Rat.intCast_lt_intCast.2 hl
  have:=Rat.mul_nonneg (show (0:Rat)≤(s.2.2:Rat) by grind) q
  rw [e] at q2
  have:((0:Int):Rat)=0:=rfl
  grind
 ·rw [q] at e
  have:(s.2.2:Rat)*lv L (rp s)=0:=e.symm
  rcases Rat.mul_eq_zero.1 this with x | x
  ·grind
  ·exact x
 ·rw [q,Rat.mul_zero] at e
  exact Rat.intCast_inj.1 e
theorem dt3_dtr {p q r:Spt} (hp:0<p.2.2) (hq:0<q.2.2) (hr:0<r.2.2):((dt3 p q r:Int):Rat)=(p.2.2:Rat)*(q.2.2:Rat)*(r.2.2:Rat)*dtr (rp p) (rp q) (rp r):=by
 obtain ⟨a1,a2,a3⟩:=rp_mul hp
 obtain ⟨b1,b2,b3⟩:=rp_mul hq
 obtain ⟨c1,c2,c3⟩:=rp_mul hr
 unfold dt3 dtr
 simp only [Rat.intCast_add,Rat.intCast_sub,Rat.intCast_mul]
 rw [a1,a2,b1,b2,c1,c2]
 grind
theorem dtr_of_dt3 {p q r:Spt} (hp:0<p.2.2) (hq:0<q.2.2) (hr:0<r.2.2) (h:dt3 p q r=0):dtr (rp p) (rp q) (rp r)=0:=by
 have e:=dt3_dtr hp hq hr
 obtain ⟨_,_,a3⟩:=rp_mul hp
 obtain ⟨_,_,b3⟩:=rp_mul hq
 obtain ⟨_,_,c3⟩:=rp_mul hr
 have m:=Rat.mul_pos (Rat.mul_pos a3 b3) c3
 rw [h] at e
 rcases Rat.mul_eq_zero.1 e.symm with x | x
 ·grind
 ·exact x
theorem mix_col {s t c:Spt} (h:Mix s t c):dt3 s c t=0:=by
 obtain ⟨k,p,q,hk,hp,hq,e1,e2,e3⟩:=h.ex
 have:k*dt3 s c t=0:=by unfold dt3;grind
 rcases Int.mul_eq_zero.1 this with x | x
 ·omega
 ·exact x
theorem rp_cr {L s n:Spt} (hs:0<s.2.2) (hn:0<n.2.2) (hx:(0<lev L s∧lev L n<0)∨(lev L s<0∧0<lev L n)):rp (crS (lev L s) (lev L n) s n)=cr L (rp s) (rp n):=by
 have hm:=crS_mix hs hn hx
 have hon:=crS_on L hs hn hx
 have hc:=mix_d hs hn hm
 have g1:=lev_sgn L hs
 have g2:=lev_sgn L hn
 refine cr_uniq (fun e=>?_) (dtr_of_dt3 hs hc hn (mix_col hm)) ((lev_sgn L hc).2.1 hon)
 have a1:0≤lev L s↔0≤lev L n:=by rw [g1.1,g2.1,e]
 omega
theorem on_line {L:Spt} (l0:¬ (L.1=0∧L.2.1=0)) {p q r:RP} (hp:lv L p=0) (hq:lv L q=0) (hr:lv L r=0):dtr p q r=0:=by
 have k1:(L.1:Rat)*dtr p q r=0:=by unfold lv dtr at *;grind
 have k2:(L.2.1:Rat)*dtr p q r=0:=by unfold lv dtr at *;grind
 by_cases h:L.1=0
 ·have h2:L.2.1≠0:=fun e=>l0 ⟨h,e⟩
  rcases Rat.mul_eq_zero.1 k2 with x | x
  ·exact absurd (Rat.intCast_inj.1 (show ((L.2.1:Int):Rat)=((0:Int):Rat) from x)) h2
  ·exact x
 ·rcases Rat.mul_eq_zero.1 k1 with x | x
  ·exact absurd (Rat.intCast_inj.1 (show ((L.1:Int):Rat)=((0:Int):Rat) from x)) h
  ·exact x
theorem step_pth {L s0 s n:Spt} {o:RP} {F:RP→RP→Rat} {k:Nat} {l:List Spt} {st:RP} {acc:Rat} (l0:¬ (L.1=0∧L.2.1=0)) (hF:Fn F) (ho:lv L o=0) (hs:0<s.2.2) (hn:0<n.2.2) (hI:Inv L s0 k l s) (hl:∀ x∈l,0<x.2.2)
  (hst:st=if 0≤lev L s0 then rp s0 else o) (h:pth F st l+F (lastR st l) (if 0≤lev L s then rp s else o)=acc):pth F st (clS L l s n)+F (lastR st (clS L l s n)) (if 0≤lev L n then rp n else o)=acc+ct L o F (rp s) (rp n):=by
 have hback:lev L s<0→lv L (lastR st l)=0:=fun hneg=>by
  by_cases he:l=[]
  ·rw [he]
   show lv L st=0
   have h0:¬ 0≤lev L s0:=fun q=>by
    by_cases k0:k=0
    ·have:=(hI.z k0).2
     rw [this] at hneg;omega
    ·have:=hI.p q (by omega)
     rw [he] at this;cases this
   rw [hst,if_neg h0];exact ho
  ·have hz:=getD_last3 (List.length_pos_iff.2 he)
   rw [lastR_last hz]
   have hr:=hI.r _ hz
   unfold Rel at hr
   rw [if_pos hneg] at hr
   exact (lev_sgn L (hl _ (List.mem_of_getLast? hz))).2.1 hr
 obtain ⟨o2,ho2⟩:∃ o2,o2=if 0≤lev L s then adS l s else l:=⟨_,rfl⟩
 have A:pth F st o2+F (lastR st o2) (if 0≤lev L s then rp s else o)=acc∧(0≤lev L s→lastR st o2=rp s)∧(lev L s<0→lv L (lastR st o2)=0):=by
  by_cases h0:0≤lev L s
  ·rw [if_pos h0] at ho2 h ⊢
   obtain ⟨a,b⟩:=adS_pth hF st l s
   rw [ho2,a,b,hF.self]
   exact ⟨by grind,fun _=>rfl,fun q=>by omega⟩
  ·rw [if_neg h0] at ho2 h ⊢
   rw [ho2]
   exact ⟨h,fun q=>absurd q h0,hback⟩
 obtain ⟨A1,A2,A3⟩:=A
 have e1:clS L l s n=if (0<lev L s∧lev L n<0)∨(lev L s<0∧0<lev L n) then adS o2 (crS (lev L s) (lev L n) s n) else o2:=by unfold clS;dsimp only;rw [← ho2]
 rw [e1]
 have g1:=lev_sgn L hs
 have g2:=lev_sgn L hn
 by_cases hx:(0<lev L s∧lev L n<0)∨(lev L s<0∧0<lev L n)
 ·rw [if_pos hx]
  obtain ⟨a,b⟩:=adS_pth hF st o2 (crS (lev L s) (lev L n) s n)
  have hc:=rp_cr hs hn hx
  rw [a,b,hc]
  rcases hx with hx | hx
  ·have c1:0≤lev L s:=by omega
   have c2:¬ 0≤lev L n:=by omega
   rw [if_pos c1,A2 c1,hF.self] at A1
   rw [if_neg c2,A2 c1]
   unfold ct
   rw [if_pos (g1.1.1 c1),if_neg (fun q=>c2 (g2.1.2 q))]
   grind
  ·have c1:¬ 0≤lev L s:=by omega
   have c2:0≤lev L n:=by omega
   have hne:lv L (rp s)≠lv L (rp n):=fun e=>by
    have:=g1.1
    rw [e,← g2.1] at this
    omega
   rw [if_neg c1] at A1
   rw [if_pos c2]
   unfold ct
   rw [if_neg (fun q=>c1 (g1.1.2 q)),if_pos (g2.1.1 c2)]
   have:=hF.coll (lastR st o2) o (cr L (rp s) (rp n)) (on_line l0 (A3 (by omega)) ho (cr_lv hne))
   rw [this]
   grind
 ·rw [if_neg hx]
  unfold ct
  by_cases c1:0≤lev L s
  ·rw [if_pos c1,A2 c1,hF.self] at A1
   rw [if_pos (g1.1.1 c1),A2 c1]
   by_cases c2:0≤lev L n
   ·rw [if_pos c2,if_pos (g2.1.1 c2)]
    grind
   ·rw [if_neg c2,if_neg (fun q=>c2 (g2.1.2 q))]
    have hz:lv L (rp s)=0:=g1.2.1 (by omega)
    have e:cr L (rp s) (rp n)=rp s:=by
     unfold cr
     rw [hz,Rat.div_def,Rat.zero_mul]
     refine Prod.ext ?_ ?_<;>dsimp only<;>grind
    rw [e,hF.self]
    grind
  ·rw [if_neg c1] at A1
   rw [if_neg (fun q=>c1 (g1.1.2 q))]
   by_cases c2:0≤lev L n
   ·rw [if_pos c2,if_pos (g2.1.1 c2)]
    have hz:lv L (rp n)=0:=g2.2.1 (by omega)
    have hne:lv L (rp s)≠lv L (rp n):=fun e=>c1 (by rw [g1.1,e,hz];exact Rat.le_refl)
    have e:rp n=cr L (rp s) (rp n):=cr_uniq hne (by unfold dtr;grind) hz
    rw [← e,hF.self]
    have:=hF.coll (lastR st o2) o (rp n) (on_line l0 (A3 (by omega)) ho hz)
    rw [this]
    grind
   ·rw [if_neg c2,if_neg (fun q=>c2 (g2.1.2 q))]
    grind
theorem clip_cyc {L:Spt} {o:RP} {F:RP→RP→Rat} {l:List Spt} (l1:L.1.natAbs≤1) (l2:L.2.1.natAbs≤1) (l0:¬ (L.1=0∧L.2.1=0)) (hF:Fn F) (ho:lv L o=0) (hP:Poly l):cyc F (clR L l)=cyc (ct L o F) l:=by
 obtain ⟨st,hst⟩:∃ st,st=if 0≤lev L (l.getD 0 z3) then rp (l.getD 0 z3) else o:=⟨_,rfl⟩
 have hall:=clN_all (Q:=fun x=>0<x.2.2) L (fun s t c h1 h2 hm=>mix_d h1 h2 hm) (fun x hx=>hx) hP.d0
 have key:∀ k,k≤l.length→pth F st (clN L l k)+F (lastR st (clN L l k)) (if 0≤lev L (l.getD (k % l.length) z3) then rp (l.getD (k % l.length) z3) else o)=qsum k (fun i=>ct L o F (rp (l.getD i z3)) (rp (l.getD ((i+1) % l.length) z3))):=by
  intro k
  induction k with
  | zero =>
   intro _
   show 0+F st _=0
   rw [Nat.zero_mod,← hst,hF.self];grind
  | succ k ih =>
   intro hk
   have hkl:k<l.length:=by omega
   have hnl:(k+1) % l.length<l.length:=Nat.mod_lt _ (by omega)
   have hI:=clN_inv l1 l2 l0 hP k (by omega)
   have ih:=ih (by omega)
   rw [Nat.mod_eq_of_lt hkl] at hI ih
   exact step_pth l0 hF ho (hP.d0 _ (getD_mem3 hkl)) (hP.d0 _ (getD_mem3 hnl)) hI (hall k (by omega)) hst ih
 have hfin:=key l.length (Nat.le_refl _)
 have hI:=clN_inv l1 l2 l0 hP l.length (Nat.le_refl _)
 have hd:=hall l.length (Nat.le_refl _)
 rw [Nat.mod_self,← hst] at hfin
 rw [Nat.mod_self] at hI
 unfold clR
 have e2:cyc (ct L o F) l=qsum l.length (fun i=>ct L o F (rp (l.getD i z3)) (rp (l.getD ((i+1) % l.length) z3))):=rfl
 rw [e2,← hfin]
 generalize clN L l l.length=out at *
 cases out with
 | nil =>
  show (0:Rat)=0+F st st
  rw [hF.self];grind
 | cons f t =>
  rw [cyc_cons]
  show _=F st (rp f)+pth F (rp f) t+F (lastR (rp f) t) st
  by_cases h0:0≤lev L (l.getD 0 z3)
  ·have hp:=hI.p h0 (by
    have:l.length≠0:=fun e=>by have:=(hI.z e).1;cases this
    omega)
   have:f=l.getD 0 z3:=Option.some.inj hp
   rw [if_pos h0,← this] at hst
   rw [hst,hF.self];grind
  ·rw [if_neg h0] at hst
   have hf:=(lev_sgn L (hd f (by simp))).2.1 (hI.n (by omega) f rfl)
   have hz:lv L (lastR (rp f) t)=0:=by
    have hzz:=getD_last3 (l:=f::t) (by simp)
    have e:lastR (rp f) t=rp ((f::t).getD ((f::t).length-1) z3):=lastR_last (p:=rp f) (l:=f::t) hzz
    have hr:=hI.r _ hzz
    unfold Rel at hr
    rw [if_pos (by omega)] at hr
    rw [e]
    exact (lev_sgn L (hd _ (List.mem_of_getLast? hzz))).2.1 hr
   rw [hst]
   have:=hF.coll (lastR (rp f) t) o (rp f) (on_line l0 hz ho hf)
   rw [this];grind
end Go.Proofs.YtechphmljdgoaaaGreatDoor
namespace Go.Proofs.YtechphmljdgoaaaGreatDoor
def vlq (V:Rat×Rat×Rat) (p:RP):Rat:=V.1*p.1+V.2.1*p.2+V.2.2
def phi (V:Rat×Rat×Rat) (p q r:RP):Rat:=dtr p q r*(vlq V p+vlq V q+vlq V r) / 6
def efn (V:Rat×Rat×Rat) (p q:RP):Rat:=phi V (0,0) p q
theorem phi_efn (V:Rat×Rat×Rat) (p q r:RP):phi V p q r=efn V p q+efn V q r+efn V r p:=by
 unfold efn phi vlq dtr;grind
theorem efn_fn (V:Rat×Rat×Rat):Fn (efn V):=by
 have ha:∀ p q,efn V q p=- efn V p q:=fun p q=>by unfold efn phi vlq dtr;grind
 refine ⟨ha,fun p m q h=>?_⟩
 have e:=phi_efn V p m q
 have:phi V p m q=0:=by unfold phi;rw [h];grind
 have:=ha p q
 grind
def fan (V:Rat×Rat×Rat) (l:List Spt):Rat:=qsum (l.length-2) fun i=>phi V (rp (l.getD 0 z3)) (rp (l.getD (i+1) z3)) (rp (l.getD (i+2) z3))
theorem fan_cyc (V:Rat×Rat×Rat) (l:List Spt):fan V l=cyc (efn V) l:=by
 have hF:=efn_fn V
 have key:∀ m,qsum m (fun i=>phi V (rp (l.getD 0 z3)) (rp (l.getD (i+1) z3)) (rp (l.getD (i+2) z3)))=qsum (m+1) (fun i=>efn V (rp (l.getD i z3)) (rp (l.getD (i+1) z3)))+efn V (rp (l.getD (m+1) z3)) (rp (l.getD 0 z3)):=by
  intro m
  induction m with
  | zero =>
   show (0:Rat)=0+efn V (rp (l.getD 0 z3)) (rp (l.getD 1 z3))+efn V (rp (l.getD 1 z3)) (rp (l.getD 0 z3))
   rw [hF.anti (rp (l.getD 0 z3)) (rp (l.getD 1 z3))];grind
  | succ m ih =>
   show qsum m _+phi V (rp (l.getD 0 z3)) (rp (l.getD (m+1) z3)) (rp (l.getD (m+2) z3))=qsum (m+1) _+efn V (rp (l.getD (m+1) z3)) (rp (l.getD (m+2) z3))+_
   rw [ih,phi_efn,hF.anti (rp (l.getD 0 z3)) (rp (l.getD (m+1) z3))];grind
 match l,key with
 | [],_=>rfl
 | [x],_ =>
  show (0:Rat)=0+efn V (rp x) (rp ([x].getD ((0+1) % (0+1)) z3))
  rw [Nat.mod_self]
  show (0:Rat)=0+efn V (rp x) (rp x)
  rw [hF.self];grind
 | x::y::t,key =>
  have:=key t.length
  unfold fan
  rw [show (x::y::t).length-2=t.length from rfl,this]
  unfold cyc
  rw [show (x::y::t).length=t.length+1+1 from rfl]
  show _=qsum (t.length+1) _+efn V (rp ((x::y::t).getD (t.length+1) z3)) (rp ((x::y::t).getD ((t.length+1+1) % (t.length+1+1)) z3))
  rw [Nat.mod_self]
  congr 1
  refine qsum_congr fun i hi=>?_
  rw [Nat.mod_eq_of_lt (by omega)]
structure GrL (L:Spt) (o:RP):Prop where
 l1:L.1.natAbs≤1
 l2:L.2.1.natAbs≤1
 l0:¬ (L.1=0∧L.2.1=0)
 on:lv L o=0
theorem clR_all {Q:Spt→Prop} (L:Spt) {l:List Spt} (hQ:∀ s t c,Q s→Q t→Mix s t c→Q c) (hp:∀ x,Q x→0<x.2.2) (hl:∀ x∈l,Q x):∀ x∈clR L l,Q x:=clN_all L hQ hp hl l.length (Nat.le_refl _)
def neg3 (L:Spt):Spt:=(-L.1,-L.2.1,-L.2.2)
theorem lv_neg (L:Spt) (p:RP):lv (neg3 L) p=- lv L p:=by unfold lv neg3;simp only [Rat.intCast_neg];grind
theorem GrL.neg {L:Spt} {o:RP} (h:GrL L o):GrL (neg3 L) o:=⟨by have:=h.l1;unfold neg3;dsimp only;omega,by have:=h.l2;unfold neg3;dsimp only;omega,fun e=>h.l0 (by unfold neg3 at e;dsimp only at e;omega),by rw [lv_neg,h.on];grind⟩
theorem left_all (M:Spt) {L:Spt} {l:List Spt} (hP:Poly l) (h:∀ x∈l,0≤lev M x):∀ x∈clR L l,0≤lev M x:=fun x hx =>
 (clR_all (Q:=fun x=>0<x.2.2∧0≤lev M x) L (fun s t c h1 h2 hm=>⟨mix_d h1.1 h2.1 hm,hm.nn M h1.2 h2.2⟩) (fun x hx=>hx.1) (fun x hx=>⟨hP.d0 x hx,h x hx⟩) x hx).2
theorem qsum_add (f g:Nat→Rat):∀ n,qsum n (fun i=>f i+g i)=qsum n f+qsum n g
 | 0=>by show (0:Rat)=0+0;grind
 | n+1=>by
  show qsum n (fun i=>f i+g i)+(f n+g n)=qsum n f+f n+(qsum n g+g n)
  rw [qsum_add f g n];grind
end Go.Proofs.YtechphmljdgoaaaGreatDoor
namespace Go.Proofs.YtechphmljdgoaaaGreatDoor
def clL (Ls:List Spt) (l:List Spt):List Spt:=Ls.foldr clR l
def OkL (Ls:List Spt):Prop:=∀ L∈Ls,∃ o,GrL L o
theorem clL_poly {Ls l:List Spt} (h:OkL Ls) (hP:Poly l):Poly (clL Ls l):=by
 induction Ls with
 | nil=>exact hP
 | cons L Ls ih =>
  obtain ⟨o,hL⟩:=h L (by simp)
  exact clR_poly hL.l1 hL.l2 hL.l0 (ih (fun M hM=>h M (by simp [hM])))
theorem clL_cons {F:RP→RP→Rat} {L:Spt} {o:RP} {Ls l:List Spt} (hL:GrL L o) (hF:Fn F) (h:OkL Ls) (hP:Poly l):cyc F (clL (L::Ls) l)=cyc (ct L o F) (clL Ls l):=clip_cyc hL.l1 hL.l2 hL.l0 hF hL.on (clL_poly h hP)
def gX (a:Int):Spt:=(1,0,-a)
def lX (a:Int):Spt:=(-1,0,a)
def gY (a:Int):Spt:=(0,1,-a)
def lY (a:Int):Spt:=(0,-1,a)
def dgL (k:Int):Spt:=(1,-1,k)
theorem gl_gX (a:Int):GrL (gX a) ((a:Rat),0):=⟨by unfold gX;dsimp only;decide,by unfold gX;dsimp only;decide,by unfold gX;dsimp only;decide,by unfold lv gX;dsimp only;rw [Rat.intCast_neg];grind⟩
theorem gl_lX (a:Int):GrL (lX a) ((a:Rat),0):=⟨by unfold lX;dsimp only;decide,by unfold lX;dsimp only;decide,by unfold lX;dsimp only;decide,by unfold lv lX;dsimp only;rw [Rat.intCast_neg];grind⟩
theorem gl_gY (a:Int):GrL (gY a) (0,(a:Rat)):=⟨by unfold gY;dsimp only;decide,by unfold gY;dsimp only;decide,by unfold gY;dsimp only;decide,by unfold lv gY;dsimp only;rw [Rat.intCast_neg];grind⟩
theorem gl_lY (a:Int):GrL (lY a) (0,(a:Rat)):=⟨by unfold lY;dsimp only;decide,by unfold lY;dsimp only;decide,by unfold lY;dsimp only;decide,by unfold lv lY;dsimp only;rw [Rat.intCast_neg];grind⟩
theorem gl_dL (a:Int):GrL (dgL a) (0,(a:Rat)):=⟨by unfold dgL;dsimp only;decide,by unfold dgL;dsimp only;decide,by unfold dgL;dsimp only;decide,by unfold lv dgL;dsimp only;rw [Rat.intCast_neg];grind⟩
theorem okL_nil:OkL []:=fun _ h=>by cases h
theorem OkL.cons {L:Spt} {o:RP} {Ls:List Spt} (hL:GrL L o) (h:OkL Ls):OkL (L::Ls):=fun M hM=>by
 rcases List.mem_cons.1 hM with e | e
 ·subst e;exact ⟨o,hL⟩
 ·exact h M e
def lowL (x y:Int):List Spt:=[dgL (y-x),lX (x+1),gY y]
def uppL (x y:Int):List Spt:=[gX x,lY (y+1),neg3 (dgL (y-x))]
theorem okL_low (x y:Int):OkL (lowL x y):=.cons (gl_dL _) (.cons (gl_lX _) (.cons (gl_gY _) okL_nil))
theorem okL_upp (x y:Int):OkL (uppL x y):=.cons (gl_gX _) (.cons (gl_lY _) (.cons (gl_dL _).neg okL_nil))
end Go.Proofs.YtechphmljdgoaaaGreatDoor
namespace Go.Proofs.YtechphmljdgoaaaGreatDoor
end Go.Proofs.YtechphmljdgoaaaGreatDoor
namespace Go.Proofs.YtechphmljdgoaaaGreatDoor
def rect (W H:Int):List Spt:=[(0,0,1),(W,0,1),(W,H,1),(0,H,1)]
def rot3 (l:List Spt) (a b c:Spt):Bool:=l==[a,b,c]||l==[b,c,a]||l==[c,a,b]
def faceOk (W H x y:Nat):Bool:=rot3 (clL (lowL x y) (rect W H)) (x,y,1) (x+1,y,1) (x+1,y+1,1)&&rot3 (clL (uppL x y) (rect W H)) (x,y,1) (x+1,y+1,1) (x,y+1,1)
theorem face_ok:∀ W:Nat,W<7→∀ H:Nat,H<7→∀ x:Nat,x<W→∀ y:Nat,y<H→faceOk W H x y=true:=by decide +kernel
theorem cyc_rot {F:RP→RP→Rat} {l:List Spt} {a b c:Spt} (h:rot3 l a b c=true):cyc F l=F (rp a) (rp b)+F (rp b) (rp c)+F (rp c) (rp a):=by
 unfold rot3 at h
 simp only [Bool.or_eq_true,beq_iff_eq] at h
 rcases h with (h | h) | h
 ·rw [h,cyc_cons];show F (rp a) (rp b)+(F (rp b) (rp c)+0)+F (rp c) (rp a)=_;grind
 ·rw [h,cyc_cons];show F (rp b) (rp c)+(F (rp c) (rp a)+0)+F (rp a) (rp b)=_;grind
 ·rw [h,cyc_cons];show F (rp c) (rp a)+(F (rp a) (rp b)+0)+F (rp b) (rp c)=_;grind
theorem pth_append (F:RP→RP→Rat):∀ (p:RP) (s t:List Spt),pth F p (s++t)=pth F p s+pth F (lastR p s) t
 | p,[],t=>by show pth F p t=0+pth F p t;grind
 | p,x::s,t=>by
  show F p (rp x)+pth F (rp x) (s++t)=F p (rp x)+pth F (rp x) s+pth F (lastR (rp x) s) t
  rw [pth_append F (rp x) s t];grind
theorem lastR_append:∀ (p:RP) (s t:List Spt),lastR p (s++t)=lastR (lastR p s) t
 | _,[],_=>rfl
 | _,x::s,t=>lastR_append (rp x) s t
theorem cyc_move (F:RP→RP→Rat) (x:Spt) (l:List Spt):cyc F (x::l)=cyc F (l++[x]):=by
 cases l with
 | nil=>rfl
 | cons y l =>
  rw [cyc_cons,List.cons_append,cyc_cons,pth_app,lastR_app]
  show F (rp x) (rp y)+pth F (rp y) l+F (lastR (rp y) l) (rp x)=_
  grind
theorem cyc_append (F:RP→RP→Rat):∀ (s t:List Spt),cyc F (s++t)=cyc F (t++s)
 | [],t=>by rw [List.append_nil,List.nil_append]
 | x::s,t=>by
  rw [List.cons_append,cyc_move,List.append_assoc,cyc_append F s (t++[x]),List.append_assoc];rfl
theorem cyc_cut {F:RP→RP→Rat} (hF:Fn F) (a b c:List Spt) (p q:Spt):cyc F (a++p::b++q::c)=cyc F (p::b++[q])+cyc F (q::c++(a++[p])):=by
 rw [List.append_assoc,cyc_append,List.append_assoc]
 simp only [List.cons_append]
 rw [cyc_cons,cyc_cons,cyc_cons,pth_append,lastR_append,pth_app,lastR_app]
 have e1:pth F (lastR (rp p) b) (q::(c++a))=F (lastR (rp p) b) (rp q)+pth F (rp q) (c++a):=rfl
 have e2:lastR (lastR (rp p) b) (q::(c++a))=lastR (rp q) (c++a):=rfl
 rw [e1,e2,← List.append_assoc c a,pth_app,lastR_app,hF.anti (rp p) (rp q)]
 grind
end Go.Proofs.YtechphmljdgoaaaGreatDoor
