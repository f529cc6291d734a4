/-
 Texts of this proof, put together: F, Fs, PB, PC, PD, Fa, Fd, Fe, Fp, Fk, Fl, Fm, Fn, Fo, Fq, Fr, Ft, Fu, Fv, Fw, Ga, Ia, Ib, Ic, Id.
 No conditions.
-/
import Derived.Test.YtechphmljdgoaaaGreatDoorZ6
import Derived.IntWalk
import Derived.Lib.ItoaNum
import Derived.Lib.AtoiAll
import Derived.Lib.Repeat
import Derived.Lib.SlTrimSet
import Derived.Lib.Strings
set_option linter.all false
namespace Go.Proofs.YtechphmljdgoaaaGreatDoor
open Go Go.Abs Go.PE Go.Proofs
open Go.IntKind (wrap)
set_option maxRecDepth 100000
set_option maxHeartbeats 0
noncomputable section
def m31F:(Int×Int×List Int×List Int)→Option (Bool) :=
 fun x=>(m36 (x.1,1,6)).bind fun r=>(bif PE.notM (PE.notM r) then m36 (x.2.1,1,6) else some false).bind fun r_1=>bif PE.orM (PE.orM (PE.orM (PE.notM r)
 (PE.notM r_1)) (PE.notM (eqM (lenM x.2.2.1) (wrap .i64 (wrap .i64 (x.1+1)*wrap .i64 (x.2.1+1)))))) (PE.notM (eqM (lenM x.2.2.2)
 (lenM x.2.2.1))) then some false else (loopF (fun (s:Int)=>bif ltM s (lenM x.2.2.1) then (idxM x.2.2.1 s).bind fun r_2=>(idxM x.2.2.2 s).bind fun r_3 =>
 (m36 (r_2,0,r_3)).bind fun r_4=>(bif PE.notM (PE.notM r_4) then idxM x.2.2.2 s else some 0).bind fun r=>bif PE.orM (PE.notM r_4) (ltM 100 r) then some
 (Sum.inr (Sum.inr false)) else some (Sum.inl (wrap .i64 (s+1))) else some (Sum.inr (Sum.inl ()))) 0).bind fun o=>Sum.elim (fun (t:Unit)=>some
 true) (fun (t:Bool)=>some t) o
theorem le31 (x):Le (m31F x) (m31 x):=by
 unfold m31F m31
 repeat' first | with_reducible exact Le.refl _ | intro _ | apply Le.bind | apply Le.cond | apply Le.nil | apply Le.loop | apply Le.elim
def m13F:((Int×Int×List Int×List Int)×Int×Int×Int)→Option (Int×Int×Int) :=
 fun x=>(m31F (x.1.1,x.1.2.1,x.1.2.2.1,x.1.2.2.2)).bind fun r=>(bif PE.notM (PE.notM r) then m36 (x.2.2.2,1,60) else some false).bind fun r_1=>(bif
 PE.notM (PE.orM (PE.notM r) (PE.notM r_1)) then m36 (x.2.1,0,wrap .i64 (x.1.1*x.2.2.2)) else some false).bind fun r_2=>(bif PE.notM (PE.orM
 (PE.orM (PE.notM r) (PE.notM r_1)) (PE.notM r_2)) then m36 (x.2.2.1,0,wrap .i64 (x.1.2.1*x.2.2.2)) else some false).bind fun r_3=>bif PE.orM
 (PE.orM (PE.orM (PE.notM r) (PE.notM r_1)) (PE.notM r_2)) (PE.notM r_3) then some (0,0,250) else (divM .i64 x.2.1 x.2.2.2).bind fun r_4=>(divM
 IntKind.i64 x.2.2.1 x.2.2.2).bind fun r_5=>((idxM x.1.2.2.1 (wrap .i64 (wrap .i64 (wrap .i64 (min r_5 (wrap .i64 (x.1.2.1-1))
 + 1)*wrap .i64 (x.1.1+1))+wrap .i64 (min r_4 (wrap .i64 (x.1.1-1))+1)))).bind fun r_6=>bif leM (wrap .i64 (x.2.2.1 -
 wrap .i64 (min r_5 (wrap .i64 (x.1.2.1-1))*x.2.2.2))) (wrap .i64 (x.2.1-wrap .i64 (min r_4 (wrap .i64 (x.1.1-1)) *
 x.2.2.2))) then ((idxM x.1.2.2.1 (wrap .i64 (wrap .i64 (min r_5 (wrap .i64 (x.1.2.1-1))*wrap .i64 (x.1.1+1))+min r_4 (wrap
 IntKind.i64 (x.1.1-1))))).bind fun r=>some r).bind fun (ov:Int)=>((idxM x.1.2.2.1 (wrap .i64 (wrap .i64 (min r_5 (wrap IntKind.i64
 (x.1.2.1-1))*wrap .i64 (x.1.1+1))+wrap .i64 (min r_4 (wrap .i64 (x.1.1-1))+1)))).bind fun r=>some r).bind fun (ov_1:Int)
 => some (wrap .i64 (wrap .i64 (wrap .i64 (wrap .i64 (x.2.2.2-wrap .i64 (x.2.1-wrap .i64 (min r_4 (wrap
 IntKind.i64 (x.1.1-1))*x.2.2.2)))*ov)+wrap .i64 (wrap .i64 (wrap .i64 (x.2.1-wrap .i64 (min r_4 (wrap .i64 (x.1.1
 - 1))*x.2.2.2))-wrap .i64 (x.2.2.1-wrap .i64 (min r_5 (wrap .i64 (x.1.2.1-1))*x.2.2.2)))*ov_1))+wrap .i64 (wrap
 IntKind.i64 (x.2.2.1-wrap .i64 (min r_5 (wrap .i64 (x.1.2.1-1))*x.2.2.2))*r_6))) else ((idxM x.1.2.2.1 (wrap .i64 (wrap
 IntKind.i64 (min r_5 (wrap .i64 (x.1.2.1-1))*wrap .i64 (x.1.1+1))+min r_4 (wrap .i64 (x.1.1-1))))).bind fun r=>some r).bind
 fun (ov:Int)=>((idxM x.1.2.2.1 (wrap .i64 (wrap .i64 (wrap .i64 (min r_5 (wrap .i64 (x.1.2.1-1))+1)*wrap IntKind.i64
 (x.1.1+1))+min r_4 (wrap .i64 (x.1.1-1))))).bind fun r=>some r).bind fun (ov_1:Int)=>some (wrap .i64 (wrap .i64 (wrap
 IntKind.i64 (wrap .i64 (x.2.2.2-wrap .i64 (x.2.2.1-wrap .i64 (min r_5 (wrap .i64 (x.1.2.1-1))*x.2.2.2)))*ov)+wrap
 IntKind.i64 (wrap .i64 (wrap .i64 (x.2.2.1-wrap .i64 (min r_5 (wrap .i64 (x.1.2.1-1))*x.2.2.2))-wrap .i64 (x.2.1 -
 wrap .i64 (min r_4 (wrap .i64 (x.1.1-1))*x.2.2.2)))*ov_1))+wrap .i64 (wrap .i64 (x.2.1-wrap .i64 (min r_4 (wrap
 IntKind.i64 (x.1.1-1))*x.2.2.2))*r_6)))).bind fun (ov:Int)=>((idxM x.1.2.2.2 (wrap .i64 (wrap .i64 (wrap .i64 (min r_5 (wrap
 IntKind.i64 (x.1.2.1-1))+1)*wrap .i64 (x.1.1+1))+wrap .i64 (min r_4 (wrap .i64 (x.1.1-1))+1)))).bind fun r_6=>bif leM
 (wrap .i64 (x.2.2.1-wrap .i64 (min r_5 (wrap .i64 (x.1.2.1-1))*x.2.2.2))) (wrap .i64 (x.2.1-wrap .i64 (min r_4
 (wrap .i64 (x.1.1-1))*x.2.2.2))) then ((idxM x.1.2.2.2 (wrap .i64 (wrap .i64 (min r_5 (wrap .i64 (x.1.2.1-1))*wrap
 IntKind.i64 (x.1.1+1))+min r_4 (wrap .i64 (x.1.1-1))))).bind fun r=>some r).bind fun (ov_1:Int)=>((idxM x.1.2.2.2 (wrap .i64 (wrap
 IntKind.i64 (min r_5 (wrap .i64 (x.1.2.1-1))*wrap .i64 (x.1.1+1))+wrap .i64 (min r_4 (wrap .i64 (x.1.1-1))+1)))).bind
 fun r=>some r).bind fun (ov:Int)=>some (wrap .i64 (wrap .i64 (wrap .i64 (wrap .i64 (x.2.2.2-wrap .i64 (x.2.1-wrap
 IntKind.i64 (min r_4 (wrap .i64 (x.1.1-1))*x.2.2.2)))*ov_1)+wrap .i64 (wrap .i64 (wrap .i64 (x.2.1-wrap .i64 (min
 r_4 (wrap .i64 (x.1.1-1))*x.2.2.2))-wrap .i64 (x.2.2.1-wrap .i64 (min r_5 (wrap .i64 (x.1.2.1-1))*x.2.2.2)))*ov)) +
 wrap .i64 (wrap .i64 (x.2.2.1-wrap .i64 (min r_5 (wrap .i64 (x.1.2.1-1))*x.2.2.2))*r_6))) else ((idxM x.1.2.2.2 (wrap
 IntKind.i64 (wrap .i64 (min r_5 (wrap .i64 (x.1.2.1-1))*wrap .i64 (x.1.1+1))+min r_4 (wrap .i64 (x.1.1-1))))).bind fun r
 => some r).bind fun (ov_1:Int)=>((idxM x.1.2.2.2 (wrap .i64 (wrap .i64 (wrap .i64 (min r_5 (wrap .i64 (x.1.2.1-1))+1) *
 wrap .i64 (x.1.1+1))+min r_4 (wrap .i64 (x.1.1-1))))).bind fun r=>some r).bind fun (ov:Int)=>some (wrap .i64 (wrap
 IntKind.i64 (wrap .i64 (wrap .i64 (x.2.2.2-wrap .i64 (x.2.2.1-wrap .i64 (min r_5 (wrap .i64 (x.1.2.1-1))*x.2.2.2)))
 * ov_1)+wrap .i64 (wrap .i64 (wrap .i64 (x.2.2.1-wrap .i64 (min r_5 (wrap .i64 (x.1.2.1-1))*x.2.2.2))-wrap
 IntKind.i64 (x.2.1-wrap .i64 (min r_4 (wrap .i64 (x.1.1-1))*x.2.2.2)))*ov))+wrap .i64 (wrap .i64 (x.2.1-wrap
 IntKind.i64 (min r_4 (wrap .i64 (x.1.1-1))*x.2.2.2))*r_6)))).bind fun (ov_1:Int)=>some (ov,ov_1,0)
theorem le13 (x):Le (m13F x) (m13 x):=by
 unfold m13F m13
 repeat' first | with_reducible exact le31 _ | with_reducible exact Le.refl _ | intro _ | apply Le.bind | apply Le.cond | apply Le.nil | apply Le.loop | apply Le.elim
def m14F:(Int×Int×List Int×List Int)→Option (Int×Int) :=
 fun x=>(m31F (x.1,x.2.1,x.2.2.1,x.2.2.2)).bind fun r=>bif PE.notM r then some (0,0) else ((loopF (fun (s:Int×Int)=>bif ltM s.1 x.2.1 then (loopF
 (fun (s_1:Int×Int)=>bif ltM s_1.1 x.1 then ((idxM x.2.2.1 (wrap .i64 (wrap .i64 (s.1*wrap .i64 (x.1+1))+s_1.1))).bind fun r
 => some r).bind fun (ov:Int)=>((idxM x.2.2.1 (wrap .i64 (wrap .i64 (s.1*wrap .i64 (x.1+1))+wrap .i64 (s_1.1+1)))).bind
 fun r=>some r).bind fun (ov_1:Int)=>((idxM x.2.2.1 (wrap .i64 (wrap .i64 (wrap .i64 (s.1+1)*wrap .i64 (x.1+1))+wrap
 IntKind.i64 (s_1.1+1)))).bind fun r=>some r).bind fun (ov_2:Int)=>((idxM x.2.2.1 (wrap .i64 (wrap .i64 (s.1*wrap .i64 (x.1 +
 1))+s_1.1))).bind fun r=>some r).bind fun (ov_3:Int)=>((idxM x.2.2.1 (wrap .i64 (wrap .i64 (wrap .i64 (s.1+1)*wrap
 IntKind.i64 (x.1+1))+wrap .i64 (s_1.1+1)))).bind fun r=>some r).bind fun (ov_4:Int)=>((idxM x.2.2.1 (wrap .i64 (wrap IntKind.i64
 (wrap .i64 (s.1+1)*wrap .i64 (x.1+1))+s_1.1))).bind fun r=>some r).bind fun (ov_5:Int)=>some (Sum.inl (wrap .i64 (s_1.1 +
 1),wrap .i64 (wrap .i64 (s_1.2+wrap .i64 (wrap .i64 (ov+ov_1)+ov_2))+wrap .i64 (wrap .i64 (ov_3+ov_4) +
 ov_5)))) else some (Sum.inr s_1.2)) (0,s.2)).bind fun o=>some (Sum.inl (wrap .i64 (s.1+1),o)) else some (Sum.inr s.2)) (0,0)).bind fun o=>some
 o).bind fun (ov:Int)=>((loopF (fun (s:Int×Int)=>bif ltM s.1 x.2.1 then (loopF (fun (s_1:Int×Int)=>bif ltM s_1.1 x.1 then ((idxM x.2.2.2 (wrap
 IntKind.i64 (wrap .i64 (s.1*wrap .i64 (x.1+1))+s_1.1))).bind fun r=>some r).bind fun (ov_1:Int)=>((idxM x.2.2.2 (wrap IntKind.i64
 (wrap .i64 (s.1*wrap .i64 (x.1+1))+wrap .i64 (s_1.1+1)))).bind fun r=>some r).bind fun (ov_2:Int)=>((idxM x.2.2.2 (wrap
 IntKind.i64 (wrap .i64 (wrap .i64 (s.1+1)*wrap .i64 (x.1+1))+wrap .i64 (s_1.1+1)))).bind fun r=>some r).bind fun (ov_3
 : Int)=>((idxM x.2.2.2 (wrap .i64 (wrap .i64 (s.1*wrap .i64 (x.1+1))+s_1.1))).bind fun r=>some r).bind fun (ov_4:Int) =>
 ((idxM x.2.2.2 (wrap .i64 (wrap .i64 (wrap .i64 (s.1+1)*wrap .i64 (x.1+1))+wrap .i64 (s_1.1+1)))).bind fun r =>
 some r).bind fun (ov_5:Int)=>((idxM x.2.2.2 (wrap .i64 (wrap .i64 (wrap .i64 (s.1+1)*wrap .i64 (x.1+1))+s_1.1))).bind
 fun r=>some r).bind fun (ov:Int)=>some (Sum.inl (wrap .i64 (s_1.1+1),wrap .i64 (wrap .i64 (s_1.2+wrap .i64 (wrap
 IntKind.i64 (ov_1+ov_2)+ov_3))+wrap .i64 (wrap .i64 (ov_4+ov_5)+ov)))) else some (Sum.inr s_1.2)) (0,s.2)).bind fun o=>some
 (Sum.inl (wrap .i64 (s.1+1),o)) else some (Sum.inr s.2)) (0,0)).bind fun o=>some o).bind fun (ov_1:Int)=>some (ov,ov_1)
theorem le14 (x):Le (m14F x) (m14 x):=by
 unfold m14F m14
 repeat' first | with_reducible exact le31 _ | with_reducible exact Le.refl _ | intro _ | apply Le.bind | apply Le.cond | apply Le.nil | apply Le.loop | apply Le.elim
def m28F:(List (Int×Int))→Option (Bool) :=
 fun x=>(bif PE.notM (PE.orM (ltM (lenM x) 3) (ltM 8 (lenM x))) then ((loopF (fun (s:Int)=>bif ltM s (lenM x) then (idxM x s).bind fun r=>(m65 (r.1,
 r.2)).bind fun r=>bif r then some (Sum.inr (Sum.inr s)) else some (Sum.inl (wrap .i64 (s+1))) else some (Sum.inr (Sum.inl ()))) 0).bind fun o =>
 Sum.elim (fun (t:Unit)=>some (-1)) (fun (t:Int)=>some t) o).bind fun (ov:Int)=>some (leM 0 ov) else some false).bind fun (ov:Bool)=>bif PE.orM
 (PE.orM (ltM (lenM x) 3) (ltM 8 (lenM x))) ov then some false else (loopF (fun (s:Int)=>bif ltM s (lenM x) then (idxM x s).bind fun r=>(remM (wrap
 IntKind.i64 (s+1)) (lenM x)).bind fun r_1=>(loopF (fun (s_1:Int)=>bif ltM s_1 (lenM x) then (idxM x s_1).bind fun r_2=>(bif PE.andM (PE.notM (eqM
 s_1 s)) (PE.notM (eqM s_1 r_1)) then idxM x r_1 else some (0,0)).bind fun r_3=>(bif PE.andM (PE.notM (eqM s_1 s)) (PE.notM (eqM s_1 r_1)) then m64 ((r.1,
 r.2),(r_3.1,r_3.2),r_2.1,r_2.2) else some 0).bind fun r=>bif PE.andM (PE.andM (PE.notM (eqM s_1 s)) (PE.notM (eqM s_1 r_1))) (leM r 0) then some
 (Sum.inr (Sum.inr false)) else some (Sum.inl (wrap .i64 (s_1+1))) else some (Sum.inr (Sum.inl ()))) 0).bind fun o=>Sum.elim (fun (t:Unit)=>some
 (Sum.inl (wrap .i64 (s+1)))) (fun (t:Bool)=>some (Sum.inr (Sum.inr t))) o else some (Sum.inr (Sum.inl ()))) 0).bind fun o=>Sum.elim (fun (t :
 Unit)=>some true) (fun (t:Bool)=>some t) o
theorem le28 (x):Le (m28F x) (m28 x):=by
 unfold m28F m28
 repeat' first | with_reducible exact Le.refl _ | intro _ | apply Le.bind | apply Le.cond | apply Le.nil | apply Le.loop | apply Le.elim
def m113F:List Int→Option (List Int) :=
 fun x=>(loopF (fun (s:List Int)=>(bif ltM 0 (lenM s) then idxM s (wrap .i64 (lenM s-1)) else some 0).bind fun r=>bif PE.andM (ltM 0 (lenM s))
 (eqM r 0) then (sliceM s 0 (wrap .i64 (lenM s-1))).bind fun r=>some (Sum.inl r) else some (Sum.inr s)) x).bind fun o=>some o
theorem le113 (x):Le (m113F x) (m113 x):=by
 unfold m113F m113
 repeat' first | with_reducible exact Le.refl _ | intro _ | apply Le.bind | apply Le.cond | apply Le.nil | apply Le.loop | apply Le.elim
def m111F:List UInt8→Option (Bool×List Int) :=
 fun x=>(loopF (fun (s:List UInt8×Bool×List Int)=>bif ltM 0 (lenM s.1) then (sliceM s.1 (max 0 (wrap .i64 (lenM s.1-4))) (lenM s.1)).bind fun
 r=>(atoiM r).bind fun r_1=>(appM (nat_lit 8) s.2.2 [r_1]).bind fun r_2=>(sliceM s.1 0 (max 0 (wrap .i64 (lenM s.1-4)))).bind fun r=>some
 (Sum.inl (r,s.2.1,r_2)) else some (Sum.inr (s.2.1,s.2.2))) (prefM x [(45:UInt8)],ltM (lenM (prefM x [(45:UInt8)])) (lenM x),[])).bind fun o=>(m113F
 o.2).bind fun r=>some (o.1,r)
theorem le111 (x):Le (m111F x) (m111 x):=by
 unfold m111F m111
 repeat' first | with_reducible exact le113 _ | with_reducible exact Le.refl _ | intro _ | apply Le.bind | apply Le.cond | apply Le.nil | apply Le.loop | apply Le.elim
def m82F:(List UInt8×List UInt8)→Option ((Bool×List Int)×(Bool×List Int)×Bool) :=
 fun x=>(m110 x.1).bind fun r=>(bif PE.notM (PE.notM r) then m110 x.2 else some false).bind fun r_1=>bif PE.orM (PE.notM r) (PE.notM r_1) then some
 ((false,[]),(false,[]),false) else (m111F x.1).bind fun r_2=>(m111F x.2).bind fun r=>some ((r_2.1,r_2.2),(r.1,r.2),true)
theorem le82 (x):Le (m82F x) (m82 x):=by
 unfold m82F m82
 repeat' first | with_reducible exact le111 _ | with_reducible exact Le.refl _ | intro _ | apply Le.bind | apply Le.cond | apply Le.nil | apply Le.loop | apply Le.elim
def m88F:(List Int×List Int)→Option (Int) :=
 fun x=>bif PE.notM (eqM (lenM x.1) (lenM x.2)) then (m124 (lenM x.1,lenM x.2)).bind fun r=>some r else (loopF (fun (s:Int)=>bif leM 0 s then (idxM x.1
 s).bind fun r=>(idxM x.2 s).bind fun r_1=>bif PE.notM (eqM r r_1) then (idxM x.2 s).bind fun r_2=>(m124 (r,r_2)).bind fun r=>some (Sum.inr (Sum.inr
 r)) else some (Sum.inl (wrap .i64 (s-1))) else some (Sum.inr (Sum.inl ()))) (wrap .i64 (lenM x.1-1))).bind fun o=>Sum.elim (fun (t:Unit)
 => some 0) (fun (t:Int)=>some t) o
theorem le88 (x):Le (m88F x) (m88 x):=by
 unfold m88F m88
 repeat' first | with_reducible exact Le.refl _ | intro _ | apply Le.bind | apply Le.cond | apply Le.nil | apply Le.loop | apply Le.elim
def m57F:(List UInt8×List UInt8)→Option (Int) :=
 fun x=>(m82F (x.1,x.2)).bind fun r=>bif PE.notM r.2.2 then some 0 else bif PE.andM r.1.1 r.2.1.1 then (m88F (r.2.1.2,r.1.2)).bind fun r=>some r else bif
 r.1.1 then some (-1) else bif r.2.1.1 then some 1 else (m88F (r.1.2,r.2.1.2)).bind fun r=>some r
theorem le57 (x):Le (m57F x) (m57 x):=by
 unfold m57F m57
 repeat' first | with_reducible exact le82 _ | with_reducible exact le88 _ | with_reducible exact Le.refl _ | intro _ | apply Le.bind | apply Le.cond | apply Le.nil | apply Le.loop | apply Le.elim
def m84F:(List Int×List Int)→Option (List Int) :=
 fun x=>(mkM 0 (wrap .i64 (max (lenM x.1) (lenM x.2)+1)) (nat_lit 8) 0).bind fun r=>(loopF (fun (s:Int×Int×List Int)=>bif PE.orM (ltM s.2.1
 (max (lenM x.1) (lenM x.2))) (PE.notM (eqM s.1 0)) then (m119 (x.1,s.2.1)).bind fun r_1=>(m119 (x.2,s.2.1)).bind fun r_2=>(bif ltM (wrap IntKind.i64
 (wrap .i64 (r_1+r_2)+s.1)) 0 then some ((-1),wrap .i64 (wrap .i64 (wrap .i64 (r_1+r_2)+s.1)+10000)) else bif leM 10000
 (wrap .i64 (wrap .i64 (r_1+r_2)+s.1)) then (divM .i64 (wrap .i64 (wrap .i64 (r_1+r_2)+s.1)) 10000).bind fun r_3 =>
 (remM (wrap .i64 (wrap .i64 (r_1+r_2)+s.1)) 10000).bind fun r=>some (r_3,r) else some (0,wrap .i64 (wrap .i64 (r_1+r_2)
 + s.1))).bind fun o=>(appM (nat_lit 8) s.2.2 [o.2]).bind fun r=>some (Sum.inl (o.1,wrap .i64 (s.2.1+1),r)) else some (Sum.inr s.2.2)) (0,0,
 r)).bind fun o=>(m113F o).bind fun r=>some r
theorem le84 (x):Le (m84F x) (m84 x):=by
 unfold m84F m84
 repeat' first | with_reducible exact le113 _ | with_reducible exact Le.refl _ | intro _ | apply Le.bind | apply Le.cond | apply Le.nil | apply Le.loop | apply Le.elim
def m86F:(List Int×List Int)→Option (List Int) :=
 fun x=>(mkM 0 (wrap .i64 (lenM x.1+1)) (nat_lit 8) 0).bind fun r=>(loopF (fun (s:Int×Int×List Int)=>bif PE.orM (ltM s.2.1 (lenM x.1))
 (PE.notM (eqM s.1 0)) then (m119 (x.1,s.2.1)).bind fun r_1=>(m119 (x.2,s.2.1)).bind fun r_2=>(bif ltM (wrap .i64 (wrap .i64 (r_1-r_2) +
 s.1)) 0 then some ((-1),wrap .i64 (wrap .i64 (wrap .i64 (r_1-r_2)+s.1)+10000)) else bif leM 10000 (wrap .i64 (wrap
 IntKind.i64 (r_1-r_2)+s.1)) then (divM .i64 (wrap .i64 (wrap .i64 (r_1-r_2)+s.1)) 10000).bind fun r_3=>(remM (wrap IntKind.i64
 (wrap .i64 (r_1-r_2)+s.1)) 10000).bind fun r=>some (r_3,r) else some (0,wrap .i64 (wrap .i64 (r_1-r_2)+s.1))).bind fun o =>
 (appM (nat_lit 8) s.2.2 [o.2]).bind fun r=>some (Sum.inl (o.1,wrap .i64 (s.2.1+1),r)) else some (Sum.inr s.2.2)) (0,0,r)).bind fun o=>(m113F
 o).bind fun r=>some r
theorem le86 (x):Le (m86F x) (m86 x):=by
 unfold m86F m86
 repeat' first | with_reducible exact le113 _ | with_reducible exact Le.refl _ | intro _ | apply Le.bind | apply Le.cond | apply Le.nil | apply Le.loop | apply Le.elim
def m95F:((Bool×List Int)×Bool×List Int)→Option (Bool×List Int) :=
 fun x=>bif eqbM x.1.1 x.2.1 then (m84F (x.1.2,x.2.2)).bind fun r=>some (x.1.1,r) else (m88F (x.1.2,x.2.2)).bind fun r=>bif leM 0 r then (m86F (x.1.2,
 x.2.2)).bind fun r=>some (x.1.1,r) else (m86F (x.2.2,x.1.2)).bind fun r=>some (x.2.1,r)
theorem le95 (x):Le (m95F x) (m95 x):=by
 unfold m95F m95
 repeat' first | with_reducible exact le84 _ | with_reducible exact le86 _ | with_reducible exact le88 _ | with_reducible exact Le.refl _ | intro _ | apply Le.bind | apply Le.cond | apply Le.nil | apply Le.loop | apply Le.elim
def m87F:(Bool×List Int)→Option (List UInt8×Int) :=
 fun x=>bif eqM (lenM x.2) 0 then some ([(48:UInt8)],0) else (loopF (fun (s:Int×List UInt8)=>bif leM 0 s.1 then (idxM x.2 s.1).bind fun r=>(bif ltM
 s.1 (wrap .i64 (lenM x.2-1)) then (rptM [(48:UInt8)] (wrap .i64 (4-lenM (itoaM r)))).bind fun r_1=>(catM r_1 (itoaM r)).bind fun r =>
 some r else some (itoaM r)).bind fun o=>(catB s.2 o).bind fun r=>some (Sum.inl (wrap .i64 (s.1-1),r)) else some (Sum.inr s.2)) (wrap IntKind.i64
 (lenM x.2-1),[])).bind fun o=>bif ltM 200 (lenM o) then some ([],30) else bif x.1 then (catM [(45:UInt8)] o).bind fun r=>some (r,0) else some (o,
 0)
theorem le87 (x):Le (m87F x) (m87 x):=by
 unfold m87F m87
 repeat' first | with_reducible exact Le.refl _ | intro _ | apply Le.bind | apply Le.cond | apply Le.nil | apply Le.loop | apply Le.elim
def m108F:(List UInt8×List UInt8)→Option (List UInt8×Int) :=
 fun x=>(m82F (x.1,x.2)).bind fun r=>bif PE.notM r.2.2 then some ([],30) else (m95F ((r.1.1,r.1.2),PE.notM r.2.1.1,r.2.1.2)).bind fun r_1=>(m87F
 (r_1.1,r_1.2)).bind fun r=>some (r.1,r.2)
theorem le108 (x):Le (m108F x) (m108 x):=by
 unfold m108F m108
 repeat' first | with_reducible exact le82 _ | with_reducible exact le87 _ | with_reducible exact le95 _ | with_reducible exact Le.refl _ | intro _ | apply Le.bind | apply Le.cond | apply Le.nil | apply Le.loop | apply Le.elim
def m114F:(List Int×Int)→Option (List Int) :=
 fun x=>(mkM 0 (wrap .i64 (lenM x.1+1)) (nat_lit 8) 0).bind fun r=>(loopF (fun (s:Int×Int×List Int)=>bif PE.orM (ltM s.2.1 (lenM x.1))
 (PE.notM (eqM s.1 0)) then (m119 (x.1,s.2.1)).bind fun r_1=>(bif ltM (wrap .i64 (wrap .i64 (r_1*x.2)+s.1)) 0 then some ((-1),wrap
 IntKind.i64 (wrap .i64 (wrap .i64 (r_1*x.2)+s.1)+10000)) else bif leM 10000 (wrap .i64 (wrap .i64 (r_1*x.2)+s.1)) then
 (divM .i64 (wrap .i64 (wrap .i64 (r_1*x.2)+s.1)) 10000).bind fun r_2=>(remM (wrap .i64 (wrap .i64 (r_1*x.2)+s.1))
 10000).bind fun r=>some (r_2,r) else some (0,wrap .i64 (wrap .i64 (r_1*x.2)+s.1))).bind fun o=>(appM (nat_lit 8) s.2.2 [o.2]).bind fun
 r=>some (Sum.inl (o.1,wrap .i64 (s.2.1+1),r)) else some (Sum.inr s.2.2)) (0,0,r)).bind fun o=>(m113F o).bind fun r=>some r
theorem le114 (x):Le (m114F x) (m114 x):=by
 unfold m114F m114
 repeat' first | with_reducible exact le113 _ | with_reducible exact Le.refl _ | intro _ | apply Le.bind | apply Le.cond | apply Le.nil | apply Le.loop | apply Le.elim
def m83F:(List Int×List Int)→Option (List Int×List Int) :=
 fun x=>(mkM (lenM x.1) (lenM x.1) (nat_lit 8) 0).bind fun r=>(loopF (fun (s:Int×List Int×List Int)=>bif leM 0 s.1 then (idxM x.1 s.1).bind fun r_1
 => (appM (nat_lit 8) [r_1] s.2.1).bind fun r_2=>(m113F r_2).bind fun r_3=>((loopF (fun (s_1:Int×Int)=>bif ltM s_1.1 s_1.2 then (shrM IntKind.u64
 (wrap IntKind.u64 (wrap .i64 (s_1.1+s_1.2))) 1).bind fun r_4=>(m114F (x.2,wrap .i64 (wrap .i64 r_4+1))).bind fun r_5=>(m88F
 (r_5,r_3)).bind fun r=>bif PE.notM (ltM 0 r) then some (Sum.inl (wrap .i64 (wrap .i64 r_4+1),s_1.2)) else some (Sum.inl (s_1.1,wrap
 IntKind.i64 r_4)) else some (Sum.inr s_1.1)) (0,9999)).bind fun o=>some o).bind fun (ov:Int)=>(chkM s.1 (lenM s.2.2)).bind fun r_4=>(setM s.2.2 s.1
 fun (x:Int)=>some ov).bind fun r_5=>(chkM s.1 (lenM r_5)).bind fun r_6=>(idxM r_5 s.1).bind fun r_7=>(m114F (x.2,r_7)).bind fun r_8=>(m86F (r_3,
 r_8)).bind fun r=>some (Sum.inl (wrap .i64 (s.1-1),r,r_5)) else some (Sum.inr (s.2.1,s.2.2))) (wrap .i64 (lenM x.1-1),[],r)).bind fun
 o=>(m113F o.2).bind fun r=>some (r,o.1)
theorem le83 (x):Le (m83F x) (m83 x):=by
 unfold m83F m83
 repeat' first | with_reducible exact le86 _ | with_reducible exact le88 _ | with_reducible exact le113 _ | with_reducible exact le114 _ | with_reducible exact Le.refl _ | intro _ | apply Le.bind | apply Le.cond | apply Le.nil | apply Le.loop | apply Le.elim
def m81F:(List UInt8×List UInt8)→Option (List UInt8×Int) :=
 fun x=>(m82F (x.1,x.2)).bind fun r=>bif PE.notM r.2.2 then some ([],30) else (loopF (fun (s:List Int×List Int)=>bif ltM 0 (lenM s.2) then (m83F
 (s.1,s.2)).bind fun r=>some (Sum.inl (s.2,r.2)) else some (Sum.inr s.1)) (r.1.2,r.2.1.2)).bind fun o=>(m87F (false,o)).bind fun r=>some (r.1,r.2)
theorem le81 (x):Le (m81F x) (m81 x):=by
 unfold m81F m81
 repeat' first | with_reducible exact le82 _ | with_reducible exact le83 _ | with_reducible exact le87 _ | with_reducible exact Le.refl _ | intro _ | apply Le.bind | apply Le.cond | apply Le.nil | apply Le.loop | apply Le.elim
def m56F:(List UInt8×List UInt8)→Option (List UInt8×List UInt8×Int) :=
 fun x=>(m82F (x.1,x.2)).bind fun r=>bif PE.orM (PE.notM r.2.2) (eqM (lenM r.2.1.2) 0) then some ([],[],30) else (m83F (r.1.2,r.2.1.2)).bind fun r_1 =>
 (bif PE.andM r.1.1 (ltM 0 (lenM r_1.2)) then (m85 ()).bind fun r_2=>(m84F (r_1.1,r_2)).bind fun r_3=>(m86F (r.2.1.2,r_1.2)).bind fun r=>some (r_3,r)
 else some (r_1.1,r_1.2)).bind fun o=>(m87F (PE.notM (eqbM r.1.1 r.2.1.1),o.1)).bind fun r_2=>bif PE.notM (eqM r_2.2 0) then some ([],[],r_2.2) else
 (m87F (false,o.2)).bind fun r=>some (r_2.1,r.1,0)
theorem le56 (x):Le (m56F x) (m56 x):=by
 unfold m56F m56
 repeat' first | with_reducible exact le82 _ | with_reducible exact le83 _ | with_reducible exact le84 _ | with_reducible exact le86 _ | with_reducible exact le87 _ | with_reducible exact Le.refl _ | intro _ | apply Le.bind | apply Le.cond | apply Le.nil | apply Le.loop | apply Le.elim
def m133F:(List UInt8×List UInt8)→Option (List UInt8×Int) :=
 fun x=>(m56F (x.1,x.2)).bind fun r=>some (r.1,r.2.2)
theorem le133 (x):Le (m133F x) (m133 x):=by
 unfold m133F m133
 repeat' first | with_reducible exact le56 _ | with_reducible exact Le.refl _ | intro _ | apply Le.bind | apply Le.cond | apply Le.nil | apply Le.loop | apply Le.elim
def m58F:(List UInt8×List UInt8)→Option ((List UInt8×List UInt8)×Int) :=
 fun x=>(m80 x.1).bind fun r=>(bif PE.notM (PE.notM r) then m80 x.2 else some false).bind fun r_1=>(bif PE.orM (PE.orM (PE.notM r) (PE.notM r_1)) (eqsM x.2
 [(48:UInt8)]) then some ([],[],40,PE.orM (PE.notM r) (PE.notM r_1)) else ((m57F (x.2,[(48:UInt8)])).bind fun r_2=>bif ltM r_2 0 then (bif PE.orM
 (PE.notM r) (PE.notM r_1) then some ([],PE.orM (PE.notM r) (PE.notM r_1)) else (m108F ([(48:UInt8)],x.1)).bind fun r=>some (r.1,PE.notM (eqM r.2
 0))).bind fun (ov:List UInt8×Bool)=>(bif ov.2 then some ([],ov.2) else (m108F ([(48:UInt8)],x.2)).bind fun r=>some (r.1,PE.notM (eqM r.2
 0))).bind fun (ov_1:List UInt8×Bool)=>some (ov.1,ov_1.1,ov_1.2) else some (x.1,x.2,PE.orM (PE.notM r) (PE.notM r_1))).bind fun o=>(bif o.2.2 then
 some ([],o.2.2) else (m81F (o.1,o.2.1)).bind fun r=>some (r.1,PE.notM (eqM r.2 0))).bind fun (ov:List UInt8×Bool)=>(bif ov.2 then some ([],ov.2)
 else (m133F (o.1,ov.1)).bind fun r=>some (r.1,PE.notM (eqM r.2 0))).bind fun (ov_1:List UInt8×Bool)=>(bif ov_1.2 then some ([],ov_1.2) else (m133F
 (o.2.1,ov.1)).bind fun r=>some (r.1,PE.notM (eqM r.2 0))).bind fun (ov:List UInt8×Bool)=>bif ov.2 then some ([],[],40,ov.2) else some (ov_1.1,
 ov.1,0,ov.2)).bind fun (ov:List UInt8×List UInt8×Int×Bool)=>some ((ov.1,ov.2.1),ov.2.2.1)
theorem le58 (x):Le (m58F x) (m58 x):=by
 unfold m58F m58
 repeat' first | with_reducible exact le57 _ | with_reducible exact le81 _ | with_reducible exact le108 _ | with_reducible exact le133 _ | with_reducible exact Le.refl _ | intro _ | apply Le.bind | apply Le.cond | apply Le.nil | apply Le.loop | apply Le.elim
def m25F:(Int×Int)→Option ((List UInt8×List UInt8)×Int) :=
 fun x=>(m59 x.1).bind fun r=>(m59 x.2).bind fun r_1=>(m58F (r,r_1)).bind fun r=>some ((r.1.1,r.1.2),r.2)
theorem le25 (x):Le (m25F x) (m25 x):=by
 unfold m25F m25
 repeat' first | with_reducible exact le58 _ | with_reducible exact Le.refl _ | intro _ | apply Le.bind | apply Le.cond | apply Le.nil | apply Le.loop | apply Le.elim
def m93F:(Int×Int)→Option (Int) :=
 fun x=>(loopF (fun (s:Int×Int)=>bif PE.notM (eqM s.2 0) then (remM s.1 s.2).bind fun r=>some (Sum.inl (s.2,r)) else some (Sum.inr s.1)) (x.1,
 x.2)).bind fun o=>some (max o (wrap .i64 (negM o)))
theorem le93 (x):Le (m93F x) (m93 x):=by
 unfold m93F m93
 repeat' first | with_reducible exact Le.refl _ | intro _ | apply Le.bind | apply Le.cond | apply Le.nil | apply Le.loop | apply Le.elim
def m72F:(Int×Int×Int)→Option (Int×Int×Int) :=
 fun x=>(m93F (x.1,x.2.1)).bind fun r=>(m93F (r,x.2.2)).bind fun r_1=>(bif ltM x.2.2 0 then some (wrap .i64 (negM r_1)) else some r_1).bind fun o
 => (divM .i64 x.1 o).bind fun r_2=>(divM .i64 x.2.1 o).bind fun r_3=>(divM .i64 x.2.2 o).bind fun r=>some (r_2,r_3,r)
theorem le72 (x):Le (m72F x) (m72 x):=by
 unfold m72F m72
 repeat' first | with_reducible exact le93 _ | with_reducible exact Le.refl _ | intro _ | apply Le.bind | apply Le.cond | apply Le.nil | apply Le.loop | apply Le.elim
def m55F:(List UInt8×List UInt8)→Option (Bool) :=
 fun x=>(m80 x.1).bind fun r=>(bif PE.notM (PE.notM r) then m80 x.2 else some false).bind fun r_1=>(bif PE.notM (PE.orM (PE.notM r) (PE.notM r_1)) then
 m57F (x.2,[(48:UInt8)]) else some 0).bind fun r_2=>bif PE.orM (PE.orM (PE.notM r) (PE.notM r_1)) (leM r_2 0) then some false else (m81F (x.1,x.2)).bind
 fun r=>some (PE.andM (eqM r.2 0) (eqsM r.1 [(49:UInt8)]))
theorem le55 (x):Le (m55F x) (m55 x):=by
 unfold m55F m55
 repeat' first | with_reducible exact le57 _ | with_reducible exact le81 _ | with_reducible exact Le.refl _ | intro _ | apply Le.bind | apply Le.cond | apply Le.nil | apply Le.loop | apply Le.elim
def m132F:(List Int×List Int)→Option (List Int) :=
 fun x=>(loopF (fun (s:Int×List Int)=>bif leM 0 s.1 then (idxM x.2 s.1).bind fun r=>(bif ltM 0 (lenM s.2) then (appM (nat_lit 8) [0] s.2).bind fun r =>
 some r else some s.2).bind fun o=>(m114F (x.1,r)).bind fun r_1=>(m84F (o,r_1)).bind fun r=>some (Sum.inl (wrap .i64 (s.1-1),r)) else some
 (Sum.inr s.2)) (wrap .i64 (lenM x.2-1),[])).bind fun o=>some o
theorem le132 (x):Le (m132F x) (m132 x):=by
 unfold m132F m132
 repeat' first | with_reducible exact le84 _ | with_reducible exact le114 _ | with_reducible exact Le.refl _ | intro _ | apply Le.bind | apply Le.cond | apply Le.nil | apply Le.loop | apply Le.elim
def m107F:(List UInt8×List UInt8)→Option (List UInt8×Int) :=
 fun x=>(m82F (x.1,x.2)).bind fun r=>bif PE.notM r.2.2 then some ([],30) else (m132F (r.1.2,r.2.1.2)).bind fun r_1=>(m87F (PE.notM (eqbM r.1.1 r.2.1.1),
 r_1)).bind fun r=>some (r.1,r.2)
theorem le107 (x):Le (m107F x) (m107 x):=by
 unfold m107F m107
 repeat' first | with_reducible exact le82 _ | with_reducible exact le87 _ | with_reducible exact le132 _ | with_reducible exact Le.refl _ | intro _ | apply Le.bind | apply Le.cond | apply Le.nil | apply Le.loop | apply Le.elim
def m74F:(List UInt8×List UInt8)→Option (List UInt8×Int) :=
 fun x=>(m82F (x.1,x.2)).bind fun r=>bif PE.notM r.2.2 then some ([],30) else (m95F ((r.1.1,r.1.2),r.2.1.1,r.2.1.2)).bind fun r_1=>(m87F (r_1.1,
 r_1.2)).bind fun r=>some (r.1,r.2)
theorem le74 (x):Le (m74F x) (m74 x):=by
 unfold m74F m74
 repeat' first | with_reducible exact le82 _ | with_reducible exact le87 _ | with_reducible exact le95 _ | with_reducible exact Le.refl _ | intro _ | apply Le.bind | apply Le.cond | apply Le.nil | apply Le.loop | apply Le.elim
def m49F:((List UInt8×List UInt8)×List UInt8×List UInt8)→Option ((List UInt8×List UInt8)×Int) :=
 fun x=>(loopF (fun (s:Int×Bool)=>bif ltM s.1 (lenM [(x.1.1,x.1.2),(x.2.1,x.2.2)]) then (idxM [(x.1.1,x.1.2),(x.2.1,x.2.2)] s.1).bind fun r=>(bif
 PE.notM s.2 then m55F (r.1,r.2) else some false).bind fun r=>some (Sum.inl (wrap .i64 (s.1+1),PE.orM s.2 (PE.notM r))) else some (Sum.inr s.2))
 (0,false)).bind fun o=>((bif o then some ([],o) else (m107F (x.1.1,x.2.2)).bind fun r=>some (r.1,PE.notM (eqM r.2 0))).bind fun (ov:List UInt8 ×
 Bool)=>some (ov.1,ov.2)).bind fun (ov:List UInt8×Bool)=>((bif ov.2 then some ([],ov.2) else (m107F (x.2.1,x.1.2)).bind fun r=>some (r.1,PE.notM
 (eqM r.2 0))).bind fun (ov:List UInt8×Bool)=>some (ov.1,ov.2)).bind fun (ov_1:List UInt8×Bool)=>(bif ov_1.2 then some ([],ov_1.2) else (m74F
 (ov.1,ov_1.1)).bind fun r=>some (r.1,PE.notM (eqM r.2 0))).bind fun (ov_2:List UInt8×Bool)=>(bif ov_2.2 then some ([],ov_2.2) else (m107F (x.1.2,
 x.2.2)).bind fun r=>some (r.1,PE.notM (eqM r.2 0))).bind fun (ov_3:List UInt8×Bool)=>(bif PE.orM ov_3.2 (eqsM ov_3.1 [(48:UInt8)]) then some ([],
 [],40,ov_3.2) else ((m57F (ov_3.1,[(48:UInt8)])).bind fun r=>bif ltM r 0 then (bif ov_3.2 then some ([],ov_3.2) else (m108F ([(48:UInt8)],
 ov_2.1)).bind fun r=>some (r.1,PE.notM (eqM r.2 0))).bind fun (ov_4:List UInt8×Bool)=>(bif ov_4.2 then some ([],ov_4.2) else (m108F ([(48:UInt8)],
 ov_3.1)).bind fun r=>some (r.1,PE.notM (eqM r.2 0))).bind fun (ov:List UInt8×Bool)=>some (ov_4.1,ov.1,ov.2) else some (ov_2.1,ov_3.1,
 ov_3.2)).bind fun o_1=>(bif o_1.2.2 then some ([],o_1.2.2) else (m81F (o_1.1,o_1.2.1)).bind fun r=>some (r.1,PE.notM (eqM r.2 0))).bind fun (ov_4 :
 List UInt8×Bool)=>(bif ov_4.2 then some ([],ov_4.2) else (m133F (o_1.1,ov_4.1)).bind fun r=>some (r.1,PE.notM (eqM r.2 0))).bind fun (ov_5:List
 UInt8×Bool)=>(bif ov_5.2 then some ([],ov_5.2) else (m133F (o_1.2.1,ov_4.1)).bind fun r=>some (r.1,PE.notM (eqM r.2 0))).bind fun (ov:List UInt8 ×
 Bool)=>bif ov.2 then some ([],[],40,ov.2) else some (ov_5.1,ov.1,0,ov.2)).bind fun (ov:List UInt8×List UInt8×Int×Bool)=>some ((ov.1,
 ov.2.1),ov.2.2.1)
theorem le49 (x):Le (m49F x) (m49 x):=by
 unfold m49F m49
 repeat' first | with_reducible exact le55 _ | with_reducible exact le57 _ | with_reducible exact le74 _ | with_reducible exact le81 _ | with_reducible exact le107 _ | with_reducible exact le108 _ | with_reducible exact le133 _ | with_reducible exact Le.refl _ | intro _ | apply Le.bind | apply Le.cond | apply Le.nil | apply Le.loop | apply Le.elim
def m17F:((Int×Int×List Int×List Int)×List (Int×Int))→Option ((List UInt8×List UInt8)×(List UInt8×List UInt8)×Int) :=
 fun x=>(m31F (x.1.1,x.1.2.1,x.1.2.2.1,x.1.2.2.2)).bind fun r=>(bif PE.notM (PE.notM r) then m28F x.2 else some false).bind fun r_1=>(bif PE.notM
 (PE.orM (PE.notM r) (PE.notM r_1)) then ((loopF (fun (s:Int)=>bif ltM s (lenM x.2) then (idxM x.2 s).bind fun r=>bif PE.orM (ltM x.1.1 r.1) (ltM x.1.2.1
 r.2) then some (Sum.inr (Sum.inr s)) else some (Sum.inl (wrap .i64 (s+1))) else some (Sum.inr (Sum.inl ()))) 0).bind fun o=>Sum.elim (fun (t :
 Unit)=>some (-1)) (fun (t:Int)=>some t) o).bind fun (ov:Int)=>some (leM 0 ov) else some false).bind fun (ov:Bool)=>bif PE.orM (PE.orM (PE.notM
 r) (PE.notM r_1)) ov then some (([],[]),([],[]),250) else (loopF (fun (s:Int×List (Int×Int×Int))=>bif ltM s.1 (lenM x.2) then (idxM x.2
 s.1).bind fun r_2=>(appM (nat_lit 24) s.2 [(r_2.1,r_2.2,1)]).bind fun r=>some (Sum.inl (wrap .i64 (s.1+1),r)) else some (Sum.inr s.2)) (0,
 [])).bind fun o=>((m25F (0,1)).bind fun r_2=>(loopF (fun (s:Int×List UInt8×List UInt8)=>bif ltM s.1 x.1.2.1 then (loopF (fun (s_1:Int×List
 UInt8×List UInt8)=>bif ltM s_1.1 x.1.1 then ((loopF (fun (s_2:Int×List (Int×Int×Int))=>bif ltM s_2.1 (lenM o) then ((chkM s_2.1 (lenM o)).bind
 fun r_3=>(idxM o s_2.1).bind fun r_4=>(remM (wrap .i64 (s_2.1+1)) (lenM o)).bind fun r_5=>(chkM r_5 (lenM o)).bind fun r_6=>(idxM o r_5).bind
 fun r_7=>(m48 ((s_1.1,s.1),(wrap .i64 (s_1.1+1),s.1),r_4.1,r_4.2.1,r_4.2.2)).bind fun r_8=>(m48 ((s_1.1,s.1),(wrap .i64 (s_1.1 +
 1),s.1),r_7.1,r_7.2.1,r_7.2.2)).bind fun r_9=>(bif leM 0 r_8 then ((bif PE.notM (eqM (lenM s_2.2) 0) then chkM (wrap .i64 (lenM s_2.2-1)) (lenM
 s_2.2) else some ()).bind fun r_10=>(bif PE.notM (eqM (lenM s_2.2) 0) then idxM s_2.2 (wrap .i64 (lenM s_2.2-1)) else some (0,0,0)).bind fun r_11
 => bif PE.orM (eqM (lenM s_2.2) 0) (PE.notM (PE.andM (eqM r_11.1 r_4.1) (PE.andM (eqM r_11.2.1 r_4.2.1) (eqM r_11.2.2 r_4.2.2)))) then (appM (nat_lit 24)
 s_2.2 [(r_4.1,r_4.2.1,r_4.2.2)]).bind fun r=>some r else some s_2.2).bind fun (ov:List (Int×Int×Int))=>some ov else some s_2.2).bind fun o_1 =>
 bif PE.orM (PE.andM (ltM 0 r_8) (ltM r_9 0)) (PE.andM (ltM r_8 0) (ltM 0 r_9)) then (m72F (wrap .i64 (wrap .i64 (r_4.1*r_9)-wrap IntKind.i64
 (r_7.1*r_8)),wrap .i64 (wrap .i64 (r_4.2.1*r_9)-wrap .i64 (r_7.2.1*r_8)),wrap .i64 (wrap .i64 (r_4.2.2*r_9) -
 wrap .i64 (r_7.2.2*r_8)))).bind fun r_10=>((bif PE.notM (eqM (lenM o_1) 0) then chkM (wrap .i64 (lenM o_1-1)) (lenM o_1) else some
 ()).bind fun r_11=>(bif PE.notM (eqM (lenM o_1) 0) then idxM o_1 (wrap .i64 (lenM o_1-1)) else some (0,0,0)).bind fun r_12=>bif PE.orM (eqM
 (lenM o_1) 0) (PE.notM (PE.andM (eqM r_12.1 r_10.1) (PE.andM (eqM r_12.2.1 r_10.2.1) (eqM r_12.2.2 r_10.2.2)))) then (appM (nat_lit 24) o_1 [(r_10.1,
 r_10.2.1,r_10.2.2)]).bind fun r=>some r else some o_1).bind fun (ov:List (Int×Int×Int))=>some ov else some o_1).bind fun o=>some (Sum.inl (wrap
 IntKind.i64 (s_2.1+1),o)) else some (Sum.inr s_2.2)) (0,[])).bind fun o_1=>bif eqM (lenM o_1) 0 then some o_1 else (loopF (fun (s_2:Int×List (Int ×
 Int×Int))=>bif ltM s_2.1 (lenM o_1) then ((chkM s_2.1 (lenM o_1)).bind fun r_3=>(idxM o_1 s_2.1).bind fun r_4=>(remM (wrap .i64 (s_2.1+1))
 (lenM o_1)).bind fun r_5=>(chkM r_5 (lenM o_1)).bind fun r_6=>(idxM o_1 r_5).bind fun r_7=>(m48 ((wrap .i64 (s_1.1+1),s.1),(wrap IntKind.i64
 (s_1.1+1),wrap .i64 (s.1+1)),r_4.1,r_4.2.1,r_4.2.2)).bind fun r_8=>(m48 ((wrap .i64 (s_1.1+1),s.1),(wrap .i64 (s_1.1+1),
 wrap .i64 (s.1+1)),r_7.1,r_7.2.1,r_7.2.2)).bind fun r_9=>(bif leM 0 r_8 then ((bif PE.notM (eqM (lenM s_2.2) 0) then chkM (wrap IntKind.i64
 (lenM s_2.2-1)) (lenM s_2.2) else some ()).bind fun r_10=>(bif PE.notM (eqM (lenM s_2.2) 0) then idxM s_2.2 (wrap .i64 (lenM s_2.2-1)) else some
 (0,0,0)).bind fun r_11=>bif PE.orM (eqM (lenM s_2.2) 0) (PE.notM (PE.andM (eqM r_11.1 r_4.1) (PE.andM (eqM r_11.2.1 r_4.2.1) (eqM r_11.2.2 r_4.2.2))))
 then (appM (nat_lit 24) s_2.2 [(r_4.1,r_4.2.1,r_4.2.2)]).bind fun r=>some r else some s_2.2).bind fun (ov:List (Int×Int×Int))=>some ov else some
 s_2.2).bind fun o_2=>bif PE.orM (PE.andM (ltM 0 r_8) (ltM r_9 0)) (PE.andM (ltM r_8 0) (ltM 0 r_9)) then (m72F (wrap .i64 (wrap .i64 (r_4.1 *
 r_9)-wrap .i64 (r_7.1*r_8)),wrap .i64 (wrap .i64 (r_4.2.1*r_9)-wrap .i64 (r_7.2.1*r_8)),wrap .i64 (wrap
 IntKind.i64 (r_4.2.2*r_9)-wrap .i64 (r_7.2.2*r_8)))).bind fun r_10=>((bif PE.notM (eqM (lenM o_2) 0) then chkM (wrap .i64 (lenM o_2 -
 1)) (lenM o_2) else some ()).bind fun r_11=>(bif PE.notM (eqM (lenM o_2) 0) then idxM o_2 (wrap .i64 (lenM o_2-1)) else some (0,0,0)).bind fun
 r_12=>bif PE.orM (eqM (lenM o_2) 0) (PE.notM (PE.andM (eqM r_12.1 r_10.1) (PE.andM (eqM r_12.2.1 r_10.2.1) (eqM r_12.2.2 r_10.2.2)))) then (appM (nat_lit
 24) o_2 [(r_10.1,r_10.2.1,r_10.2.2)]).bind fun r=>some r else some o_2).bind fun (ov:List (Int×Int×Int))=>some ov else some o_2).bind fun o =>
 some (Sum.inl (wrap .i64 (s_2.1+1),o)) else some (Sum.inr s_2.2)) (0,[])).bind fun o_2=>bif eqM (lenM o_2) 0 then some o_2 else (loopF (fun (s_2
 : Int×List (Int×Int×Int))=>bif ltM s_2.1 (lenM o_2) then ((chkM s_2.1 (lenM o_2)).bind fun r_3=>(idxM o_2 s_2.1).bind fun r_4=>(remM (wrap
 IntKind.i64 (s_2.1+1)) (lenM o_2)).bind fun r_5=>(chkM r_5 (lenM o_2)).bind fun r_6=>(idxM o_2 r_5).bind fun r_7=>(m48 ((wrap .i64 (s_1.1+1),
 wrap .i64 (s.1+1)),(s_1.1,s.1),r_4.1,r_4.2.1,r_4.2.2)).bind fun r_8=>(m48 ((wrap .i64 (s_1.1+1),wrap .i64 (s.1+1)),(s_1.1,
 s.1),r_7.1,r_7.2.1,r_7.2.2)).bind fun r_9=>(bif leM 0 r_8 then ((bif PE.notM (eqM (lenM s_2.2) 0) then chkM (wrap .i64 (lenM s_2.2-1)) (lenM
 s_2.2) else some ()).bind fun r_10=>(bif PE.notM (eqM (lenM s_2.2) 0) then idxM s_2.2 (wrap .i64 (lenM s_2.2-1)) else some (0,0,0)).bind fun r_11
 => bif PE.orM (eqM (lenM s_2.2) 0) (PE.notM (PE.andM (eqM r_11.1 r_4.1) (PE.andM (eqM r_11.2.1 r_4.2.1) (eqM r_11.2.2 r_4.2.2)))) then (appM (nat_lit 24)
 s_2.2 [(r_4.1,r_4.2.1,r_4.2.2)]).bind fun r=>some r else some s_2.2).bind fun (ov:List (Int×Int×Int))=>some ov else some s_2.2).bind fun o_3 =>
 bif PE.orM (PE.andM (ltM 0 r_8) (ltM r_9 0)) (PE.andM (ltM r_8 0) (ltM 0 r_9)) then (m72F (wrap .i64 (wrap .i64 (r_4.1*r_9)-wrap IntKind.i64
 (r_7.1*r_8)),wrap .i64 (wrap .i64 (r_4.2.1*r_9)-wrap .i64 (r_7.2.1*r_8)),wrap .i64 (wrap .i64 (r_4.2.2*r_9) -
 wrap .i64 (r_7.2.2*r_8)))).bind fun r_10=>((bif PE.notM (eqM (lenM o_3) 0) then chkM (wrap .i64 (lenM o_3-1)) (lenM o_3) else some
 ()).bind fun r_11=>(bif PE.notM (eqM (lenM o_3) 0) then idxM o_3 (wrap .i64 (lenM o_3-1)) else some (0,0,0)).bind fun r_12=>bif PE.orM (eqM
 (lenM o_3) 0) (PE.notM (PE.andM (eqM r_12.1 r_10.1) (PE.andM (eqM r_12.2.1 r_10.2.1) (eqM r_12.2.2 r_10.2.2)))) then (appM (nat_lit 24) o_3 [(r_10.1,
 r_10.2.1,r_10.2.2)]).bind fun r=>some r else some o_3).bind fun (ov:List (Int×Int×Int))=>some ov else some o_3).bind fun o=>some (Sum.inl (wrap
 IntKind.i64 (s_2.1+1),o)) else some (Sum.inr s_2.2)) (0,[])).bind fun o=>bif eqM (lenM o) 0 then some o else some o).bind fun o_1=>(loopF (fun (s_2 :
 Int×List UInt8×List UInt8)=>bif ltM s_2.1 (lenM o_1) then (chkM 0 (lenM o_1)).bind fun r_3=>(idxM o_1 0).bind fun r_4=>(chkM (wrap IntKind.i64
 (s_2.1-1)) (lenM o_1)).bind fun r_5=>(idxM o_1 (wrap .i64 (s_2.1-1))).bind fun r_6=>(chkM s_2.1 (lenM o_1)).bind fun r_7=>(idxM o_1
 s_2.1).bind fun r_8=>(((idxM x.1.2.2.1 (wrap .i64 (wrap .i64 (s.1*wrap .i64 (x.1.1+1))+s_1.1))).bind fun r=>some r).bind fun
 (ov_1:Int)=>(m48 ((wrap .i64 (s_1.1+1),s.1),(wrap .i64 (s_1.1+1),wrap .i64 (s.1+1)),r_4.1,r_4.2.1,r_4.2.2)).bind fun r_9
 => ((idxM x.1.2.2.1 (wrap .i64 (wrap .i64 (s.1*wrap .i64 (x.1.1+1))+wrap .i64 (s_1.1+1)))).bind fun r=>some r).bind fun
 (ov_2:Int)=>(m48 ((wrap .i64 (s_1.1+1),wrap .i64 (s.1+1)),(s_1.1,s.1),r_4.1,r_4.2.1,r_4.2.2)).bind fun r_10=>((idxM x.1.2.2.1
 (wrap .i64 (wrap .i64 (wrap .i64 (s.1+1)*wrap .i64 (x.1.1+1))+wrap .i64 (s_1.1+1)))).bind fun r=>some r).bind
 fun (ov_3:Int)=>(m48 ((s_1.1,s.1),(wrap .i64 (s_1.1+1),s.1),r_4.1,r_4.2.1,r_4.2.2)).bind fun r=>some (wrap .i64 (wrap IntKind.i64
 (wrap .i64 (0+wrap .i64 (ov_1*r_9))+wrap .i64 (ov_2*r_10))+wrap .i64 (ov_3*r)))).bind fun (ov_1:Int)=>(((idxM
 x.1.2.2.1 (wrap .i64 (wrap .i64 (s.1*wrap .i64 (x.1.1+1))+s_1.1))).bind fun r=>some r).bind fun (ov_2:Int)=>(m48 ((wrap
 IntKind.i64 (s_1.1+1),s.1),(wrap .i64 (s_1.1+1),wrap .i64 (s.1+1)),r_6.1,r_6.2.1,r_6.2.2)).bind fun r_9=>((idxM x.1.2.2.1 (wrap
 IntKind.i64 (wrap .i64 (s.1*wrap .i64 (x.1.1+1))+wrap .i64 (s_1.1+1)))).bind fun r=>some r).bind fun (ov_3:Int)=>(m48
 ((wrap .i64 (s_1.1+1),wrap .i64 (s.1+1)),(s_1.1,s.1),r_6.1,r_6.2.1,r_6.2.2)).bind fun r_10=>((idxM x.1.2.2.1 (wrap .i64 (wrap
 IntKind.i64 (wrap .i64 (s.1+1)*wrap .i64 (x.1.1+1))+wrap .i64 (s_1.1+1)))).bind fun r=>some r).bind fun (ov_4:Int)=>(m48
 ((s_1.1,s.1),(wrap .i64 (s_1.1+1),s.1),r_6.1,r_6.2.1,r_6.2.2)).bind fun r=>some (wrap .i64 (wrap .i64 (wrap .i64 (0 +
 wrap .i64 (ov_2*r_9))+wrap .i64 (ov_3*r_10))+wrap .i64 (ov_4*r)))).bind fun (ov_2:Int)=>(((idxM x.1.2.2.1 (wrap IntKind.i64
 (wrap .i64 (s.1*wrap .i64 (x.1.1+1))+s_1.1))).bind fun r=>some r).bind fun (ov_3:Int)=>(m48 ((wrap .i64 (s_1.1+1),s.1),
 (wrap .i64 (s_1.1+1),wrap .i64 (s.1+1)),r_8.1,r_8.2.1,r_8.2.2)).bind fun r_9=>((idxM x.1.2.2.1 (wrap .i64 (wrap IntKind.i64
 (s.1*wrap .i64 (x.1.1+1))+wrap .i64 (s_1.1+1)))).bind fun r=>some r).bind fun (ov_4:Int)=>(m48 ((wrap .i64 (s_1.1+1),
 wrap .i64 (s.1+1)),(s_1.1,s.1),r_8.1,r_8.2.1,r_8.2.2)).bind fun r_10=>((idxM x.1.2.2.1 (wrap .i64 (wrap .i64 (wrap IntKind.i64
 (s.1+1)*wrap .i64 (x.1.1+1))+wrap .i64 (s_1.1+1)))).bind fun r=>some r).bind fun (ov_5:Int)=>(m48 ((s_1.1,s.1),(wrap
 IntKind.i64 (s_1.1+1),s.1),r_8.1,r_8.2.1,r_8.2.2)).bind fun r=>some (wrap .i64 (wrap .i64 (wrap .i64 (0+wrap .i64 (ov_3
 * r_9))+wrap .i64 (ov_4*r_10))+wrap .i64 (ov_5*r)))).bind fun (ov_3:Int)=>(m25F (wrap .i64 (wrap .i64 (wrap
 IntKind.i64 (wrap .i64 (r_4.1*wrap .i64 (wrap .i64 (r_6.2.1*r_8.2.2)-wrap .i64 (r_6.2.2*r_8.2.1)))-wrap IntKind.i64
 (r_4.2.1*wrap .i64 (wrap .i64 (r_6.1*r_8.2.2)-wrap .i64 (r_6.2.2*r_8.1))))+wrap .i64 (r_4.2.2*wrap .i64 (wrap
 IntKind.i64 (r_6.1*r_8.2.1)-wrap .i64 (r_6.2.1*r_8.1))))*wrap .i64 (wrap .i64 (wrap .i64 (wrap .i64 (ov_1 *
 r_6.2.2)*r_8.2.2)+wrap .i64 (wrap .i64 (ov_2*r_4.2.2)*r_8.2.2))+wrap .i64 (wrap .i64 (ov_3*r_4.2.2)*r_6.2.2))),wrap
 IntKind.i64 (wrap .i64 (6*wrap .i64 (wrap .i64 (r_4.2.2*r_6.2.2)*r_8.2.2))*wrap .i64 (wrap .i64 (r_4.2.2*r_6.2.2)
 * r_8.2.2)))).bind fun r_9=>(m49F ((s_2.2.1,s_2.2.2),r_9.1.1,r_9.1.2)).bind fun r=>some (Sum.inl (wrap .i64 (s_2.1+1),r.1.1,r.1.2)) else
 some (Sum.inr (s_2.2.1,s_2.2.2))) (2,s_1.2.1,s_1.2.2)).bind fun o_2=>((loopF (fun (s_2:Int×List (Int×Int×Int))=>bif ltM s_2.1 (lenM o) then
 ((chkM s_2.1 (lenM o)).bind fun r_3=>(idxM o s_2.1).bind fun r_4=>(remM (wrap .i64 (s_2.1+1)) (lenM o)).bind fun r_5=>(chkM r_5 (lenM o)).bind
 fun r_6=>(idxM o r_5).bind fun r_7=>(m48 ((s_1.1,s.1),(wrap .i64 (s_1.1+1),wrap .i64 (s.1+1)),r_4.1,r_4.2.1,r_4.2.2)).bind fun r_8
 => (m48 ((s_1.1,s.1),(wrap .i64 (s_1.1+1),wrap .i64 (s.1+1)),r_7.1,r_7.2.1,r_7.2.2)).bind fun r_9=>(bif leM 0 r_8 then ((bif PE.notM
 (eqM (lenM s_2.2) 0) then chkM (wrap .i64 (lenM s_2.2-1)) (lenM s_2.2) else some ()).bind fun r_10=>(bif PE.notM (eqM (lenM s_2.2) 0) then idxM
 s_2.2 (wrap .i64 (lenM s_2.2-1)) else some (0,0,0)).bind fun r_11=>bif PE.orM (eqM (lenM s_2.2) 0) (PE.notM (PE.andM (eqM r_11.1 r_4.1) (PE.andM
 (eqM r_11.2.1 r_4.2.1) (eqM r_11.2.2 r_4.2.2)))) then (appM (nat_lit 24) s_2.2 [(r_4.1,r_4.2.1,r_4.2.2)]).bind fun r=>some r else some s_2.2).bind fun (ov
 : List (Int×Int×Int))=>some ov else some s_2.2).bind fun o_3=>bif PE.orM (PE.andM (ltM 0 r_8) (ltM r_9 0)) (PE.andM (ltM r_8 0) (ltM 0 r_9)) then
 (m72F (wrap .i64 (wrap .i64 (r_4.1*r_9)-wrap .i64 (r_7.1*r_8)),wrap .i64 (wrap .i64 (r_4.2.1*r_9)-wrap
 IntKind.i64 (r_7.2.1*r_8)),wrap .i64 (wrap .i64 (r_4.2.2*r_9)-wrap .i64 (r_7.2.2*r_8)))).bind fun r_10=>((bif PE.notM (eqM
 (lenM o_3) 0) then chkM (wrap .i64 (lenM o_3-1)) (lenM o_3) else some ()).bind fun r_11=>(bif PE.notM (eqM (lenM o_3) 0) then idxM o_3 (wrap
 IntKind.i64 (lenM o_3-1)) else some (0,0,0)).bind fun r_12=>bif PE.orM (eqM (lenM o_3) 0) (PE.notM (PE.andM (eqM r_12.1 r_10.1) (PE.andM (eqM r_12.2.1
 r_10.2.1) (eqM r_12.2.2 r_10.2.2)))) then (appM (nat_lit 24) o_3 [(r_10.1,r_10.2.1,r_10.2.2)]).bind fun r=>some r else some o_3).bind fun (ov:List (Int
 × Int×Int))=>some ov else some o_3).bind fun o=>some (Sum.inl (wrap .i64 (s_2.1+1),o)) else some (Sum.inr s_2.2)) (0,[])).bind fun o_3=>bif
 eqM (lenM o_3) 0 then some o_3 else (loopF (fun (s_2:Int×List (Int×Int×Int))=>bif ltM s_2.1 (lenM o_3) then ((chkM s_2.1 (lenM o_3)).bind fun r_3 =>
 (idxM o_3 s_2.1).bind fun r_4=>(remM (wrap .i64 (s_2.1+1)) (lenM o_3)).bind fun r_5=>(chkM r_5 (lenM o_3)).bind fun r_6=>(idxM o_3 r_5).bind
 fun r_7=>(m48 ((wrap .i64 (s_1.1+1),wrap .i64 (s.1+1)),(s_1.1,wrap .i64 (s.1+1)),r_4.1,r_4.2.1,r_4.2.2)).bind fun r_8 =>
 (m48 ((wrap .i64 (s_1.1+1),wrap .i64 (s.1+1)),(s_1.1,wrap .i64 (s.1+1)),r_7.1,r_7.2.1,r_7.2.2)).bind fun r_9=>(bif leM 0
 r_8 then ((bif PE.notM (eqM (lenM s_2.2) 0) then chkM (wrap .i64 (lenM s_2.2-1)) (lenM s_2.2) else some ()).bind fun r_10=>(bif PE.notM (eqM (lenM
 s_2.2) 0) then idxM s_2.2 (wrap .i64 (lenM s_2.2-1)) else some (0,0,0)).bind fun r_11=>bif PE.orM (eqM (lenM s_2.2) 0) (PE.notM (PE.andM (eqM
 r_11.1 r_4.1) (PE.andM (eqM r_11.2.1 r_4.2.1) (eqM r_11.2.2 r_4.2.2)))) then (appM (nat_lit 24) s_2.2 [(r_4.1,r_4.2.1,r_4.2.2)]).bind fun r=>some r else
 some s_2.2).bind fun (ov:List (Int×Int×Int))=>some ov else some s_2.2).bind fun o_4=>bif PE.orM (PE.andM (ltM 0 r_8) (ltM r_9 0)) (PE.andM (ltM r_8
 0) (ltM 0 r_9)) then (m72F (wrap .i64 (wrap .i64 (r_4.1*r_9)-wrap .i64 (r_7.1*r_8)),wrap .i64 (wrap .i64 (r_4.2.1 *
 r_9)-wrap .i64 (r_7.2.1*r_8)),wrap .i64 (wrap .i64 (r_4.2.2*r_9)-wrap .i64 (r_7.2.2*r_8)))).bind fun r_10=>((bif
 PE.notM (eqM (lenM o_4) 0) then chkM (wrap .i64 (lenM o_4-1)) (lenM o_4) else some ()).bind fun r_11=>(bif PE.notM (eqM (lenM o_4) 0) then idxM o_4
 (wrap .i64 (lenM o_4-1)) else some (0,0,0)).bind fun r_12=>bif PE.orM (eqM (lenM o_4) 0) (PE.notM (PE.andM (eqM r_12.1 r_10.1) (PE.andM (eqM
 r_12.2.1 r_10.2.1) (eqM r_12.2.2 r_10.2.2)))) then (appM (nat_lit 24) o_4 [(r_10.1,r_10.2.1,r_10.2.2)]).bind fun r=>some r else some o_4).bind fun (ov :
 List (Int×Int×Int))=>some ov else some o_4).bind fun o=>some (Sum.inl (wrap .i64 (s_2.1+1),o)) else some (Sum.inr s_2.2)) (0,[])).bind fun
 o_4=>bif eqM (lenM o_4) 0 then some o_4 else (loopF (fun (s_2:Int×List (Int×Int×Int))=>bif ltM s_2.1 (lenM o_4) then ((chkM s_2.1 (lenM o_4)).bind
 fun r_3=>(idxM o_4 s_2.1).bind fun r_4=>(remM (wrap .i64 (s_2.1+1)) (lenM o_4)).bind fun r_5=>(chkM r_5 (lenM o_4)).bind fun r_6=>(idxM o_4
 r_5).bind fun r_7=>(m48 ((s_1.1,wrap .i64 (s.1+1)),(s_1.1,s.1),r_4.1,r_4.2.1,r_4.2.2)).bind fun r_8=>(m48 ((s_1.1,wrap .i64 (s.1 +
 1)),(s_1.1,s.1),r_7.1,r_7.2.1,r_7.2.2)).bind fun r_9=>(bif leM 0 r_8 then ((bif PE.notM (eqM (lenM s_2.2) 0) then chkM (wrap .i64 (lenM s_2.2 -
 1)) (lenM s_2.2) else some ()).bind fun r_10=>(bif PE.notM (eqM (lenM s_2.2) 0) then idxM s_2.2 (wrap .i64 (lenM s_2.2-1)) else some (0,0,
 0)).bind fun r_11=>bif PE.orM (eqM (lenM s_2.2) 0) (PE.notM (PE.andM (eqM r_11.1 r_4.1) (PE.andM (eqM r_11.2.1 r_4.2.1) (eqM r_11.2.2 r_4.2.2)))) then (appM
 (nat_lit 24) s_2.2 [(r_4.1,r_4.2.1,r_4.2.2)]).bind fun r=>some r else some s_2.2).bind fun (ov:List (Int×Int×Int))=>some ov else some s_2.2).bind
 fun o_5=>bif PE.orM (PE.andM (ltM 0 r_8) (ltM r_9 0)) (PE.andM (ltM r_8 0) (ltM 0 r_9)) then (m72F (wrap .i64 (wrap .i64 (r_4.1*r_9)-wrap
 IntKind.i64 (r_7.1*r_8)),wrap .i64 (wrap .i64 (r_4.2.1*r_9)-wrap .i64 (r_7.2.1*r_8)),wrap .i64 (wrap IntKind.i64
 (r_4.2.2*r_9)-wrap .i64 (r_7.2.2*r_8)))).bind fun r_10=>((bif PE.notM (eqM (lenM o_5) 0) then chkM (wrap .i64 (lenM o_5-1)) (lenM o_5)
 else some ()).bind fun r_11=>(bif PE.notM (eqM (lenM o_5) 0) then idxM o_5 (wrap .i64 (lenM o_5-1)) else some (0,0,0)).bind fun r_12=>bif
 PE.orM (eqM (lenM o_5) 0) (PE.notM (PE.andM (eqM r_12.1 r_10.1) (PE.andM (eqM r_12.2.1 r_10.2.1) (eqM r_12.2.2 r_10.2.2)))) then (appM (nat_lit 24) o_5
 [(r_10.1,r_10.2.1,r_10.2.2)]).bind fun r=>some r else some o_5).bind fun (ov:List (Int×Int×Int))=>some ov else some o_5).bind fun o=>some
 (Sum.inl (wrap .i64 (s_2.1+1),o)) else some (Sum.inr s_2.2)) (0,[])).bind fun o=>bif eqM (lenM o) 0 then some o else some o).bind fun o_3 =>
 (loopF (fun (s_2:Int×List UInt8×List UInt8)=>bif ltM s_2.1 (lenM o_3) then (chkM 0 (lenM o_3)).bind fun r_3=>(idxM o_3 0).bind fun r_4=>(chkM
 (wrap .i64 (s_2.1-1)) (lenM o_3)).bind fun r_5=>(idxM o_3 (wrap .i64 (s_2.1-1))).bind fun r_6=>(chkM s_2.1 (lenM o_3)).bind fun r_7 =>
 (idxM o_3 s_2.1).bind fun r_8=>(((idxM x.1.2.2.1 (wrap .i64 (wrap .i64 (s.1*wrap .i64 (x.1.1+1))+s_1.1))).bind fun r=>some
 r).bind fun (ov_1:Int)=>(m48 ((wrap .i64 (s_1.1+1),wrap .i64 (s.1+1)),(s_1.1,wrap .i64 (s.1+1)),r_4.1,r_4.2.1,
 r_4.2.2)).bind fun r_9=>((idxM x.1.2.2.1 (wrap .i64 (wrap .i64 (wrap .i64 (s.1+1)*wrap .i64 (x.1.1+1))+wrap IntKind.i64
 (s_1.1+1)))).bind fun r=>some r).bind fun (ov_2:Int)=>(m48 ((s_1.1,wrap .i64 (s.1+1)),(s_1.1,s.1),r_4.1,r_4.2.1,r_4.2.2)).bind fun r_10
 => ((idxM x.1.2.2.1 (wrap .i64 (wrap .i64 (wrap .i64 (s.1+1)*wrap .i64 (x.1.1+1))+s_1.1))).bind fun r=>some r).bind fun
 (ov_3:Int)=>(m48 ((s_1.1,s.1),(wrap .i64 (s_1.1+1),wrap .i64 (s.1+1)),r_4.1,r_4.2.1,r_4.2.2)).bind fun r=>some (wrap IntKind.i64
 (wrap .i64 (wrap .i64 (0+wrap .i64 (ov_1*r_9))+wrap .i64 (ov_2*r_10))+wrap .i64 (ov_3*r)))).bind fun (ov_1 :
 Int)=>(((idxM x.1.2.2.1 (wrap .i64 (wrap .i64 (s.1*wrap .i64 (x.1.1+1))+s_1.1))).bind fun r=>some r).bind fun (ov_2:Int) =>
 (m48 ((wrap .i64 (s_1.1+1),wrap .i64 (s.1+1)),(s_1.1,wrap .i64 (s.1+1)),r_6.1,r_6.2.1,r_6.2.2)).bind fun r_9=>((idxM
 x.1.2.2.1 (wrap .i64 (wrap .i64 (wrap .i64 (s.1+1)*wrap .i64 (x.1.1+1))+wrap .i64 (s_1.1+1)))).bind fun r=>some
 r).bind fun (ov_3:Int)=>(m48 ((s_1.1,wrap .i64 (s.1+1)),(s_1.1,s.1),r_6.1,r_6.2.1,r_6.2.2)).bind fun r_10=>((idxM x.1.2.2.1 (wrap
 IntKind.i64 (wrap .i64 (wrap .i64 (s.1+1)*wrap .i64 (x.1.1+1))+s_1.1))).bind fun r=>some r).bind fun (ov_4:Int)=>(m48
 ((s_1.1,s.1),(wrap .i64 (s_1.1+1),wrap .i64 (s.1+1)),r_6.1,r_6.2.1,r_6.2.2)).bind fun r=>some (wrap .i64 (wrap IntKind.i64
 (wrap .i64 (0+wrap .i64 (ov_2*r_9))+wrap .i64 (ov_3*r_10))+wrap .i64 (ov_4*r)))).bind fun (ov_2:Int)=>(((idxM
 x.1.2.2.1 (wrap .i64 (wrap .i64 (s.1*wrap .i64 (x.1.1+1))+s_1.1))).bind fun r=>some r).bind fun (ov_3:Int)=>(m48 ((wrap
 IntKind.i64 (s_1.1+1),wrap .i64 (s.1+1)),(s_1.1,wrap .i64 (s.1+1)),r_8.1,r_8.2.1,r_8.2.2)).bind fun r_9=>((idxM x.1.2.2.1 (wrap
 IntKind.i64 (wrap .i64 (wrap .i64 (s.1+1)*wrap .i64 (x.1.1+1))+wrap .i64 (s_1.1+1)))).bind fun r=>some r).bind fun
 (ov_4:Int)=>(m48 ((s_1.1,wrap .i64 (s.1+1)),(s_1.1,s.1),r_8.1,r_8.2.1,r_8.2.2)).bind fun r_10=>((idxM x.1.2.2.1 (wrap .i64 (wrap
 IntKind.i64 (wrap .i64 (s.1+1)*wrap .i64 (x.1.1+1))+s_1.1))).bind fun r=>some r).bind fun (ov_5:Int)=>(m48 ((s_1.1,s.1),(wrap
 IntKind.i64 (s_1.1+1),wrap .i64 (s.1+1)),r_8.1,r_8.2.1,r_8.2.2)).bind fun r=>some (wrap .i64 (wrap .i64 (wrap .i64 (0 +
 wrap .i64 (ov_3*r_9))+wrap .i64 (ov_4*r_10))+wrap .i64 (ov_5*r)))).bind fun (ov_3:Int)=>(m25F (wrap .i64 (wrap
 IntKind.i64 (wrap .i64 (wrap .i64 (r_4.1*wrap .i64 (wrap .i64 (r_6.2.1*r_8.2.2)-wrap .i64 (r_6.2.2*r_8.2.1))) -
 wrap .i64 (r_4.2.1*wrap .i64 (wrap .i64 (r_6.1*r_8.2.2)-wrap .i64 (r_6.2.2*r_8.1))))+wrap .i64 (r_4.2.2*wrap
 IntKind.i64 (wrap .i64 (r_6.1*r_8.2.1)-wrap .i64 (r_6.2.1*r_8.1))))*wrap .i64 (wrap .i64 (wrap .i64 (wrap
 IntKind.i64 (ov_1*r_6.2.2)*r_8.2.2)+wrap .i64 (wrap .i64 (ov_2*r_4.2.2)*r_8.2.2))+wrap .i64 (wrap .i64 (ov_3 *
 r_4.2.2)*r_6.2.2))),wrap .i64 (wrap .i64 (6*wrap .i64 (wrap .i64 (r_4.2.2*r_6.2.2)*r_8.2.2))*wrap .i64 (wrap
 IntKind.i64 (r_4.2.2*r_6.2.2)*r_8.2.2)))).bind fun r_9=>(m49F ((s_2.2.1,s_2.2.2),r_9.1.1,r_9.1.2)).bind fun r=>some (Sum.inl (wrap IntKind.i64
 (s_2.1+1),r.1.1,r.1.2)) else some (Sum.inr (s_2.2.1,s_2.2.2))) (2,o_2.1,o_2.2)).bind fun o=>some (Sum.inl (wrap .i64 (s_1.1+1),o.1,o.2))
 else some (Sum.inr (s_1.2.1,s_1.2.2))) (0,s.2.1,s.2.2)).bind fun o=>some (Sum.inl (wrap .i64 (s.1+1),o.1,o.2)) else some (Sum.inr (s.2.1,
 s.2.2))) (0,r_2.1.1,r_2.1.2)).bind fun o=>some (o.1,o.2)).bind fun (ov_1:List UInt8×List UInt8)=>((m25F (0,1)).bind fun r_2=>(loopF (fun (s :
 Int×List UInt8×List UInt8)=>bif ltM s.1 x.1.2.1 then (loopF (fun (s_1:Int×List UInt8×List UInt8)=>bif ltM s_1.1 x.1.1 then ((loopF (fun (s_2 :
 Int×List (Int×Int×Int))=>bif ltM s_2.1 (lenM o) then ((chkM s_2.1 (lenM o)).bind fun r_3=>(idxM o s_2.1).bind fun r_4=>(remM (wrap IntKind.i64
 (s_2.1+1)) (lenM o)).bind fun r_5=>(chkM r_5 (lenM o)).bind fun r_6=>(idxM o r_5).bind fun r_7=>(m48 ((s_1.1,s.1),(wrap .i64 (s_1.1+1),
 s.1),r_4.1,r_4.2.1,r_4.2.2)).bind fun r_8=>(m48 ((s_1.1,s.1),(wrap .i64 (s_1.1+1),s.1),r_7.1,r_7.2.1,r_7.2.2)).bind fun r_9=>(bif leM 0
 r_8 then ((bif PE.notM (eqM (lenM s_2.2) 0) then chkM (wrap .i64 (lenM s_2.2-1)) (lenM s_2.2) else some ()).bind fun r_10=>(bif PE.notM (eqM (lenM
 s_2.2) 0) then idxM s_2.2 (wrap .i64 (lenM s_2.2-1)) else some (0,0,0)).bind fun r_11=>bif PE.orM (eqM (lenM s_2.2) 0) (PE.notM (PE.andM (eqM
 r_11.1 r_4.1) (PE.andM (eqM r_11.2.1 r_4.2.1) (eqM r_11.2.2 r_4.2.2)))) then (appM (nat_lit 24) s_2.2 [(r_4.1,r_4.2.1,r_4.2.2)]).bind fun r=>some r else
 some s_2.2).bind fun (ov:List (Int×Int×Int))=>some ov else some s_2.2).bind fun o_1=>bif PE.orM (PE.andM (ltM 0 r_8) (ltM r_9 0)) (PE.andM (ltM r_8
 0) (ltM 0 r_9)) then (m72F (wrap .i64 (wrap .i64 (r_4.1*r_9)-wrap .i64 (r_7.1*r_8)),wrap .i64 (wrap .i64 (r_4.2.1 *
 r_9)-wrap .i64 (r_7.2.1*r_8)),wrap .i64 (wrap .i64 (r_4.2.2*r_9)-wrap .i64 (r_7.2.2*r_8)))).bind fun r_10=>((bif
 PE.notM (eqM (lenM o_1) 0) then chkM (wrap .i64 (lenM o_1-1)) (lenM o_1) else some ()).bind fun r_11=>(bif PE.notM (eqM (lenM o_1) 0) then idxM o_1
 (wrap .i64 (lenM o_1-1)) else some (0,0,0)).bind fun r_12=>bif PE.orM (eqM (lenM o_1) 0) (PE.notM (PE.andM (eqM r_12.1 r_10.1) (PE.andM (eqM
 r_12.2.1 r_10.2.1) (eqM r_12.2.2 r_10.2.2)))) then (appM (nat_lit 24) o_1 [(r_10.1,r_10.2.1,r_10.2.2)]).bind fun r=>some r else some o_1).bind fun (ov :
 List (Int×Int×Int))=>some ov else some o_1).bind fun o=>some (Sum.inl (wrap .i64 (s_2.1+1),o)) else some (Sum.inr s_2.2)) (0,[])).bind fun
 o_1=>bif eqM (lenM o_1) 0 then some o_1 else (loopF (fun (s_2:Int×List (Int×Int×Int))=>bif ltM s_2.1 (lenM o_1) then ((chkM s_2.1 (lenM o_1)).bind
 fun r_3=>(idxM o_1 s_2.1).bind fun r_4=>(remM (wrap .i64 (s_2.1+1)) (lenM o_1)).bind fun r_5=>(chkM r_5 (lenM o_1)).bind fun r_6=>(idxM o_1
 r_5).bind fun r_7=>(m48 ((wrap .i64 (s_1.1+1),s.1),(wrap .i64 (s_1.1+1),wrap .i64 (s.1+1)),r_4.1,r_4.2.1,r_4.2.2)).bind fun
 r_8=>(m48 ((wrap .i64 (s_1.1+1),s.1),(wrap .i64 (s_1.1+1),wrap .i64 (s.1+1)),r_7.1,r_7.2.1,r_7.2.2)).bind fun r_9=>(bif
 leM 0 r_8 then ((bif PE.notM (eqM (lenM s_2.2) 0) then chkM (wrap .i64 (lenM s_2.2-1)) (lenM s_2.2) else some ()).bind fun r_10=>(bif PE.notM (eqM
 (lenM s_2.2) 0) then idxM s_2.2 (wrap .i64 (lenM s_2.2-1)) else some (0,0,0)).bind fun r_11=>bif PE.orM (eqM (lenM s_2.2) 0) (PE.notM (PE.andM
 (eqM r_11.1 r_4.1) (PE.andM (eqM r_11.2.1 r_4.2.1) (eqM r_11.2.2 r_4.2.2)))) then (appM (nat_lit 24) s_2.2 [(r_4.1,r_4.2.1,r_4.2.2)]).bind fun r=>some r
 else some s_2.2).bind fun (ov:List (Int×Int×Int))=>some ov else some s_2.2).bind fun o_2=>bif PE.orM (PE.andM (ltM 0 r_8) (ltM r_9 0)) (PE.andM (ltM
 r_8 0) (ltM 0 r_9)) then (m72F (wrap .i64 (wrap .i64 (r_4.1*r_9)-wrap .i64 (r_7.1*r_8)),wrap .i64 (wrap IntKind.i64
 (r_4.2.1*r_9)-wrap .i64 (r_7.2.1*r_8)),wrap .i64 (wrap .i64 (r_4.2.2*r_9)-wrap .i64 (r_7.2.2*r_8)))).bind fun r_10 =>
 ((bif PE.notM (eqM (lenM o_2) 0) then chkM (wrap .i64 (lenM o_2-1)) (lenM o_2) else some ()).bind fun r_11=>(bif PE.notM (eqM (lenM o_2) 0) then
 idxM o_2 (wrap .i64 (lenM o_2-1)) else some (0,0,0)).bind fun r_12=>bif PE.orM (eqM (lenM o_2) 0) (PE.notM (PE.andM (eqM r_12.1 r_10.1) (PE.andM
 (eqM r_12.2.1 r_10.2.1) (eqM r_12.2.2 r_10.2.2)))) then (appM (nat_lit 24) o_2 [(r_10.1,r_10.2.1,r_10.2.2)]).bind fun r=>some r else some o_2).bind fun
 (ov:List (Int×Int×Int))=>some ov else some o_2).bind fun o=>some (Sum.inl (wrap .i64 (s_2.1+1),o)) else some (Sum.inr s_2.2)) (0,
 [])).bind fun o_2=>bif eqM (lenM o_2) 0 then some o_2 else (loopF (fun (s_2:Int×List (Int×Int×Int))=>bif ltM s_2.1 (lenM o_2) then ((chkM s_2.1
 (lenM o_2)).bind fun r_3=>(idxM o_2 s_2.1).bind fun r_4=>(remM (wrap .i64 (s_2.1+1)) (lenM o_2)).bind fun r_5=>(chkM r_5 (lenM o_2)).bind fun
 r_6=>(idxM o_2 r_5).bind fun r_7=>(m48 ((wrap .i64 (s_1.1+1),wrap .i64 (s.1+1)),(s_1.1,s.1),r_4.1,r_4.2.1,r_4.2.2)).bind fun r_8
 => (m48 ((wrap .i64 (s_1.1+1),wrap .i64 (s.1+1)),(s_1.1,s.1),r_7.1,r_7.2.1,r_7.2.2)).bind fun r_9=>(bif leM 0 r_8 then ((bif PE.notM
 (eqM (lenM s_2.2) 0) then chkM (wrap .i64 (lenM s_2.2-1)) (lenM s_2.2) else some ()).bind fun r_10=>(bif PE.notM (eqM (lenM s_2.2) 0) then idxM
 s_2.2 (wrap .i64 (lenM s_2.2-1)) else some (0,0,0)).bind fun r_11=>bif PE.orM (eqM (lenM s_2.2) 0) (PE.notM (PE.andM (eqM r_11.1 r_4.1) (PE.andM
 (eqM r_11.2.1 r_4.2.1) (eqM r_11.2.2 r_4.2.2)))) then (appM (nat_lit 24) s_2.2 [(r_4.1,r_4.2.1,r_4.2.2)]).bind fun r=>some r else some s_2.2).bind fun (ov
 : List (Int×Int×Int))=>some ov else some s_2.2).bind fun o_3=>bif PE.orM (PE.andM (ltM 0 r_8) (ltM r_9 0)) (PE.andM (ltM r_8 0) (ltM 0 r_9)) then
 (m72F (wrap .i64 (wrap .i64 (r_4.1*r_9)-wrap .i64 (r_7.1*r_8)),wrap .i64 (wrap .i64 (r_4.2.1*r_9)-wrap
 IntKind.i64 (r_7.2.1*r_8)),wrap .i64 (wrap .i64 (r_4.2.2*r_9)-wrap .i64 (r_7.2.2*r_8)))).bind fun r_10=>((bif PE.notM (eqM
 (lenM o_3) 0) then chkM (wrap .i64 (lenM o_3-1)) (lenM o_3) else some ()).bind fun r_11=>(bif PE.notM (eqM (lenM o_3) 0) then idxM o_3 (wrap
 IntKind.i64 (lenM o_3-1)) else some (0,0,0)).bind fun r_12=>bif PE.orM (eqM (lenM o_3) 0) (PE.notM (PE.andM (eqM r_12.1 r_10.1) (PE.andM (eqM r_12.2.1
 r_10.2.1) (eqM r_12.2.2 r_10.2.2)))) then (appM (nat_lit 24) o_3 [(r_10.1,r_10.2.1,r_10.2.2)]).bind fun r=>some r else some o_3).bind fun (ov:List (Int
 × Int×Int))=>some ov else some o_3).bind fun o=>some (Sum.inl (wrap .i64 (s_2.1+1),o)) else some (Sum.inr s_2.2)) (0,[])).bind fun o=>bif
 eqM (lenM o) 0 then some o else some o).bind fun o_1=>(loopF (fun (s_2:Int×List UInt8×List UInt8)=>bif ltM s_2.1 (lenM o_1) then (chkM 0 (lenM
 o_1)).bind fun r_3=>(idxM o_1 0).bind fun r_4=>(chkM (wrap .i64 (s_2.1-1)) (lenM o_1)).bind fun r_5=>(idxM o_1 (wrap .i64 (s_2.1 -
 1))).bind fun r_6=>(chkM s_2.1 (lenM o_1)).bind fun r_7=>(idxM o_1 s_2.1).bind fun r_8=>(((idxM x.1.2.2.2 (wrap .i64 (wrap .i64 (s.1 *
 wrap .i64 (x.1.1+1))+s_1.1))).bind fun r=>some r).bind fun (ov_2:Int)=>(m48 ((wrap .i64 (s_1.1+1),s.1),(wrap .i64 (s_1.1 +
 1),wrap .i64 (s.1+1)),r_4.1,r_4.2.1,r_4.2.2)).bind fun r_9=>((idxM x.1.2.2.2 (wrap .i64 (wrap .i64 (s.1*wrap .i64 (x.1.1
 + 1))+wrap .i64 (s_1.1+1)))).bind fun r=>some r).bind fun (ov_3:Int)=>(m48 ((wrap .i64 (s_1.1+1),wrap .i64 (s.1+1)),
 (s_1.1,s.1),r_4.1,r_4.2.1,r_4.2.2)).bind fun r_10=>((idxM x.1.2.2.2 (wrap .i64 (wrap .i64 (wrap .i64 (s.1+1)*wrap IntKind.i64
 (x.1.1+1))+wrap .i64 (s_1.1+1)))).bind fun r=>some r).bind fun (ov_4:Int)=>(m48 ((s_1.1,s.1),(wrap .i64 (s_1.1+1),s.1),r_4.1,
 r_4.2.1,r_4.2.2)).bind fun r=>some (wrap .i64 (wrap .i64 (wrap .i64 (0+wrap .i64 (ov_2*r_9))+wrap .i64 (ov_3 *
 r_10))+wrap .i64 (ov_4*r)))).bind fun (ov_2:Int)=>(((idxM x.1.2.2.2 (wrap .i64 (wrap .i64 (s.1*wrap .i64 (x.1.1+1)) +
 s_1.1))).bind fun r=>some r).bind fun (ov_3:Int)=>(m48 ((wrap .i64 (s_1.1+1),s.1),(wrap .i64 (s_1.1+1),wrap .i64 (s.1+1)),
 r_6.1,r_6.2.1,r_6.2.2)).bind fun r_9=>((idxM x.1.2.2.2 (wrap .i64 (wrap .i64 (s.1*wrap .i64 (x.1.1+1))+wrap .i64 (s_1.1
 + 1)))).bind fun r=>some r).bind fun (ov_4:Int)=>(m48 ((wrap .i64 (s_1.1+1),wrap .i64 (s.1+1)),(s_1.1,s.1),r_6.1,r_6.2.1,
 r_6.2.2)).bind fun r_10=>((idxM x.1.2.2.2 (wrap .i64 (wrap .i64 (wrap .i64 (s.1+1)*wrap .i64 (x.1.1+1))+wrap IntKind.i64
 (s_1.1+1)))).bind fun r=>some r).bind fun (ov_5:Int)=>(m48 ((s_1.1,s.1),(wrap .i64 (s_1.1+1),s.1),r_6.1,r_6.2.1,r_6.2.2)).bind fun r =>
 some (wrap .i64 (wrap .i64 (wrap .i64 (0+wrap .i64 (ov_3*r_9))+wrap .i64 (ov_4*r_10))+wrap .i64 (ov_5 *
 r)))).bind fun (ov_3:Int)=>(((idxM x.1.2.2.2 (wrap .i64 (wrap .i64 (s.1*wrap .i64 (x.1.1+1))+s_1.1))).bind fun r=>some
 r).bind fun (ov_4:Int)=>(m48 ((wrap .i64 (s_1.1+1),s.1),(wrap .i64 (s_1.1+1),wrap .i64 (s.1+1)),r_8.1,r_8.2.1,
 r_8.2.2)).bind fun r_9=>((idxM x.1.2.2.2 (wrap .i64 (wrap .i64 (s.1*wrap .i64 (x.1.1+1))+wrap .i64 (s_1.1+1)))).bind fun
 r=>some r).bind fun (ov_5:Int)=>(m48 ((wrap .i64 (s_1.1+1),wrap .i64 (s.1+1)),(s_1.1,s.1),r_8.1,r_8.2.1,r_8.2.2)).bind fun r_10
 => ((idxM x.1.2.2.2 (wrap .i64 (wrap .i64 (wrap .i64 (s.1+1)*wrap .i64 (x.1.1+1))+wrap .i64 (s_1.1+1)))).bind fun
 r=>some r).bind fun (ov_6:Int)=>(m48 ((s_1.1,s.1),(wrap .i64 (s_1.1+1),s.1),r_8.1,r_8.2.1,r_8.2.2)).bind fun r=>some (wrap IntKind.i64
 (wrap .i64 (wrap .i64 (0+wrap .i64 (ov_4*r_9))+wrap .i64 (ov_5*r_10))+wrap .i64 (ov_6*r)))).bind fun (ov_4 :
 Int)=>(m25F (wrap .i64 (wrap .i64 (wrap .i64 (wrap .i64 (r_4.1*wrap .i64 (wrap .i64 (r_6.2.1*r_8.2.2)-wrap
 IntKind.i64 (r_6.2.2*r_8.2.1)))-wrap .i64 (r_4.2.1*wrap .i64 (wrap .i64 (r_6.1*r_8.2.2)-wrap .i64 (r_6.2.2*r_8.1)))) +
 wrap .i64 (r_4.2.2*wrap .i64 (wrap .i64 (r_6.1*r_8.2.1)-wrap .i64 (r_6.2.1*r_8.1))))*wrap .i64 (wrap IntKind.i64
 (wrap .i64 (wrap .i64 (ov_2*r_6.2.2)*r_8.2.2)+wrap .i64 (wrap .i64 (ov_3*r_4.2.2)*r_8.2.2))+wrap .i64 (wrap
 IntKind.i64 (ov_4*r_4.2.2)*r_6.2.2))),wrap .i64 (wrap .i64 (6*wrap .i64 (wrap .i64 (r_4.2.2*r_6.2.2)*r_8.2.2))*wrap
 IntKind.i64 (wrap .i64 (r_4.2.2*r_6.2.2)*r_8.2.2)))).bind fun r_9=>(m49F ((s_2.2.1,s_2.2.2),r_9.1.1,r_9.1.2)).bind fun r=>some (Sum.inl
 (wrap .i64 (s_2.1+1),r.1.1,r.1.2)) else some (Sum.inr (s_2.2.1,s_2.2.2))) (2,s_1.2.1,s_1.2.2)).bind fun o_2=>((loopF (fun (s_2:Int×List
 (Int×Int×Int))=>bif ltM s_2.1 (lenM o) then ((chkM s_2.1 (lenM o)).bind fun r_3=>(idxM o s_2.1).bind fun r_4=>(remM (wrap .i64 (s_2.1+1))
 (lenM o)).bind fun r_5=>(chkM r_5 (lenM o)).bind fun r_6=>(idxM o r_5).bind fun r_7=>(m48 ((s_1.1,s.1),(wrap .i64 (s_1.1+1),wrap IntKind.i64
 (s.1+1)),r_4.1,r_4.2.1,r_4.2.2)).bind fun r_8=>(m48 ((s_1.1,s.1),(wrap .i64 (s_1.1+1),wrap .i64 (s.1+1)),r_7.1,r_7.2.1,
 r_7.2.2)).bind fun r_9=>(bif leM 0 r_8 then ((bif PE.notM (eqM (lenM s_2.2) 0) then chkM (wrap .i64 (lenM s_2.2-1)) (lenM s_2.2) else some ()).bind
 fun r_10=>(bif PE.notM (eqM (lenM s_2.2) 0) then idxM s_2.2 (wrap .i64 (lenM s_2.2-1)) else some (0,0,0)).bind fun r_11=>bif PE.orM (eqM (lenM
 s_2.2) 0) (PE.notM (PE.andM (eqM r_11.1 r_4.1) (PE.andM (eqM r_11.2.1 r_4.2.1) (eqM r_11.2.2 r_4.2.2)))) then (appM (nat_lit 24) s_2.2 [(r_4.1,r_4.2.1,
 r_4.2.2)]).bind fun r=>some r else some s_2.2).bind fun (ov:List (Int×Int×Int))=>some ov else some s_2.2).bind fun o_3=>bif PE.orM (PE.andM (ltM 0
 r_8) (ltM r_9 0)) (PE.andM (ltM r_8 0) (ltM 0 r_9)) then (m72F (wrap .i64 (wrap .i64 (r_4.1*r_9)-wrap .i64 (r_7.1*r_8)),wrap
 IntKind.i64 (wrap .i64 (r_4.2.1*r_9)-wrap .i64 (r_7.2.1*r_8)),wrap .i64 (wrap .i64 (r_4.2.2*r_9)-wrap IntKind.i64
 (r_7.2.2*r_8)))).bind fun r_10=>((bif PE.notM (eqM (lenM o_3) 0) then chkM (wrap .i64 (lenM o_3-1)) (lenM o_3) else some ()).bind fun r_11 =>
 (bif PE.notM (eqM (lenM o_3) 0) then idxM o_3 (wrap .i64 (lenM o_3-1)) else some (0,0,0)).bind fun r_12=>bif PE.orM (eqM (lenM o_3) 0) (PE.notM
 (PE.andM (eqM r_12.1 r_10.1) (PE.andM (eqM r_12.2.1 r_10.2.1) (eqM r_12.2.2 r_10.2.2)))) then (appM (nat_lit 24) o_3 [(r_10.1,r_10.2.1,r_10.2.2)]).bind fun
 r=>some r else some o_3).bind fun (ov:List (Int×Int×Int))=>some ov else some o_3).bind fun o=>some (Sum.inl (wrap .i64 (s_2.1+1),o))
 else some (Sum.inr s_2.2)) (0,[])).bind fun o_3=>bif eqM (lenM o_3) 0 then some o_3 else (loopF (fun (s_2:Int×List (Int×Int×Int))=>bif ltM s_2.1
 (lenM o_3) then ((chkM s_2.1 (lenM o_3)).bind fun r_3=>(idxM o_3 s_2.1).bind fun r_4=>(remM (wrap .i64 (s_2.1+1)) (lenM o_3)).bind fun r_5 =>
 (chkM r_5 (lenM o_3)).bind fun r_6=>(idxM o_3 r_5).bind fun r_7=>(m48 ((wrap .i64 (s_1.1+1),wrap .i64 (s.1+1)),(s_1.1,wrap
 IntKind.i64 (s.1+1)),r_4.1,r_4.2.1,r_4.2.2)).bind fun r_8=>(m48 ((wrap .i64 (s_1.1+1),wrap .i64 (s.1+1)),(s_1.1,wrap IntKind.i64
 (s.1+1)),r_7.1,r_7.2.1,r_7.2.2)).bind fun r_9=>(bif leM 0 r_8 then ((bif PE.notM (eqM (lenM s_2.2) 0) then chkM (wrap .i64 (lenM s_2.2-1))
 (lenM s_2.2) else some ()).bind fun r_10=>(bif PE.notM (eqM (lenM s_2.2) 0) then idxM s_2.2 (wrap .i64 (lenM s_2.2-1)) else some (0,0,0)).bind
 fun r_11=>bif PE.orM (eqM (lenM s_2.2) 0) (PE.notM (PE.andM (eqM r_11.1 r_4.1) (PE.andM (eqM r_11.2.1 r_4.2.1) (eqM r_11.2.2 r_4.2.2)))) then (appM (nat_lit
 24) s_2.2 [(r_4.1,r_4.2.1,r_4.2.2)]).bind fun r=>some r else some s_2.2).bind fun (ov:List (Int×Int×Int))=>some ov else some s_2.2).bind fun o_4
 => bif PE.orM (PE.andM (ltM 0 r_8) (ltM r_9 0)) (PE.andM (ltM r_8 0) (ltM 0 r_9)) then (m72F (wrap .i64 (wrap .i64 (r_4.1*r_9)-wrap
 IntKind.i64 (r_7.1*r_8)),wrap .i64 (wrap .i64 (r_4.2.1*r_9)-wrap .i64 (r_7.2.1*r_8)),wrap .i64 (wrap IntKind.i64
 (r_4.2.2*r_9)-wrap .i64 (r_7.2.2*r_8)))).bind fun r_10=>((bif PE.notM (eqM (lenM o_4) 0) then chkM (wrap .i64 (lenM o_4-1)) (lenM o_4)
 else some ()).bind fun r_11=>(bif PE.notM (eqM (lenM o_4) 0) then idxM o_4 (wrap .i64 (lenM o_4-1)) else some (0,0,0)).bind fun r_12=>bif
 PE.orM (eqM (lenM o_4) 0) (PE.notM (PE.andM (eqM r_12.1 r_10.1) (PE.andM (eqM r_12.2.1 r_10.2.1) (eqM r_12.2.2 r_10.2.2)))) then (appM (nat_lit 24) o_4
 [(r_10.1,r_10.2.1,r_10.2.2)]).bind fun r=>some r else some o_4).bind fun (ov:List (Int×Int×Int))=>some ov else some o_4).bind fun o=>some
 (Sum.inl (wrap .i64 (s_2.1+1),o)) else some (Sum.inr s_2.2)) (0,[])).bind fun o_4=>bif eqM (lenM o_4) 0 then some o_4 else (loopF (fun (s_2:Int
 × List (Int×Int×Int))=>bif ltM s_2.1 (lenM o_4) then ((chkM s_2.1 (lenM o_4)).bind fun r_3=>(idxM o_4 s_2.1).bind fun r_4=>(remM (wrap IntKind.i64
 (s_2.1+1)) (lenM o_4)).bind fun r_5=>(chkM r_5 (lenM o_4)).bind fun r_6=>(idxM o_4 r_5).bind fun r_7=>(m48 ((s_1.1,wrap .i64 (s.1+1)),
 (s_1.1,s.1),r_4.1,r_4.2.1,r_4.2.2)).bind fun r_8=>(m48 ((s_1.1,wrap .i64 (s.1+1)),(s_1.1,s.1),r_7.1,r_7.2.1,r_7.2.2)).bind fun r_9 =>
 (bif leM 0 r_8 then ((bif PE.notM (eqM (lenM s_2.2) 0) then chkM (wrap .i64 (lenM s_2.2-1)) (lenM s_2.2) else some ()).bind fun r_10=>(bif PE.notM
 (eqM (lenM s_2.2) 0) then idxM s_2.2 (wrap .i64 (lenM s_2.2-1)) else some (0,0,0)).bind fun r_11=>bif PE.orM (eqM (lenM s_2.2) 0) (PE.notM
 (PE.andM (eqM r_11.1 r_4.1) (PE.andM (eqM r_11.2.1 r_4.2.1) (eqM r_11.2.2 r_4.2.2)))) then (appM (nat_lit 24) s_2.2 [(r_4.1,r_4.2.1,r_4.2.2)]).bind fun r =>
 some r else some s_2.2).bind fun (ov:List (Int×Int×Int))=>some ov else some s_2.2).bind fun o_5=>bif PE.orM (PE.andM (ltM 0 r_8) (ltM r_9 0))
 (PE.andM (ltM r_8 0) (ltM 0 r_9)) then (m72F (wrap .i64 (wrap .i64 (r_4.1*r_9)-wrap .i64 (r_7.1*r_8)),wrap .i64 (wrap
 IntKind.i64 (r_4.2.1*r_9)-wrap .i64 (r_7.2.1*r_8)),wrap .i64 (wrap .i64 (r_4.2.2*r_9)-wrap .i64 (r_7.2.2*r_8)))).bind
 fun r_10=>((bif PE.notM (eqM (lenM o_5) 0) then chkM (wrap .i64 (lenM o_5-1)) (lenM o_5) else some ()).bind fun r_11=>(bif PE.notM (eqM (lenM
 o_5) 0) then idxM o_5 (wrap .i64 (lenM o_5-1)) else some (0,0,0)).bind fun r_12=>bif PE.orM (eqM (lenM o_5) 0) (PE.notM (PE.andM (eqM r_12.1
 r_10.1) (PE.andM (eqM r_12.2.1 r_10.2.1) (eqM r_12.2.2 r_10.2.2)))) then (appM (nat_lit 24) o_5 [(r_10.1,r_10.2.1,r_10.2.2)]).bind fun r=>some r else some
 o_5).bind fun (ov:List (Int×Int×Int))=>some ov else some o_5).bind fun o=>some (Sum.inl (wrap .i64 (s_2.1+1),o)) else some (Sum.inr
 s_2.2)) (0,[])).bind fun o=>bif eqM (lenM o) 0 then some o else some o).bind fun o_3=>(loopF (fun (s_2:Int×List UInt8×List UInt8)=>bif ltM s_2.1
 (lenM o_3) then (chkM 0 (lenM o_3)).bind fun r_3=>(idxM o_3 0).bind fun r_4=>(chkM (wrap .i64 (s_2.1-1)) (lenM o_3)).bind fun r_5=>(idxM o_3
 (wrap .i64 (s_2.1-1))).bind fun r_6=>(chkM s_2.1 (lenM o_3)).bind fun r_7=>(idxM o_3 s_2.1).bind fun r_8=>(((idxM x.1.2.2.2 (wrap IntKind.i64
 (wrap .i64 (s.1*wrap .i64 (x.1.1+1))+s_1.1))).bind fun r=>some r).bind fun (ov_2:Int)=>(m48 ((wrap .i64 (s_1.1+1),wrap
 IntKind.i64 (s.1+1)),(s_1.1,wrap .i64 (s.1+1)),r_4.1,r_4.2.1,r_4.2.2)).bind fun r_9=>((idxM x.1.2.2.2 (wrap .i64 (wrap IntKind.i64
 (wrap .i64 (s.1+1)*wrap .i64 (x.1.1+1))+wrap .i64 (s_1.1+1)))).bind fun r=>some r).bind fun (ov_3:Int)=>(m48 ((s_1.1,
 wrap .i64 (s.1+1)),(s_1.1,s.1),r_4.1,r_4.2.1,r_4.2.2)).bind fun r_10=>((idxM x.1.2.2.2 (wrap .i64 (wrap .i64 (wrap IntKind.i64
 (s.1+1)*wrap .i64 (x.1.1+1))+s_1.1))).bind fun r=>some r).bind fun (ov_4:Int)=>(m48 ((s_1.1,s.1),(wrap .i64 (s_1.1+1),wrap
 IntKind.i64 (s.1+1)),r_4.1,r_4.2.1,r_4.2.2)).bind fun r=>some (wrap .i64 (wrap .i64 (wrap .i64 (0+wrap .i64 (ov_2*r_9))
 + wrap .i64 (ov_3*r_10))+wrap .i64 (ov_4*r)))).bind fun (ov_2:Int)=>(((idxM x.1.2.2.2 (wrap .i64 (wrap .i64 (s.1*wrap
 IntKind.i64 (x.1.1+1))+s_1.1))).bind fun r=>some r).bind fun (ov_3:Int)=>(m48 ((wrap .i64 (s_1.1+1),wrap .i64 (s.1+1)),(s_1.1,
 wrap .i64 (s.1+1)),r_6.1,r_6.2.1,r_6.2.2)).bind fun r_9=>((idxM x.1.2.2.2 (wrap .i64 (wrap .i64 (wrap .i64 (s.1+1)*wrap
 IntKind.i64 (x.1.1+1))+wrap .i64 (s_1.1+1)))).bind fun r=>some r).bind fun (ov_4:Int)=>(m48 ((s_1.1,wrap .i64 (s.1+1)),(s_1.1,
 s.1),r_6.1,r_6.2.1,r_6.2.2)).bind fun r_10=>((idxM x.1.2.2.2 (wrap .i64 (wrap .i64 (wrap .i64 (s.1+1)*wrap .i64 (x.1.1 +
 1))+s_1.1))).bind fun r=>some r).bind fun (ov_5:Int)=>(m48 ((s_1.1,s.1),(wrap .i64 (s_1.1+1),wrap .i64 (s.1+1)),r_6.1,r_6.2.1,
 r_6.2.2)).bind fun r=>some (wrap .i64 (wrap .i64 (wrap .i64 (0+wrap .i64 (ov_3*r_9))+wrap .i64 (ov_4*r_10)) +
 wrap .i64 (ov_5*r)))).bind fun (ov_3:Int)=>(((idxM x.1.2.2.2 (wrap .i64 (wrap .i64 (s.1*wrap .i64 (x.1.1+1)) +
 s_1.1))).bind fun r=>some r).bind fun (ov_4:Int)=>(m48 ((wrap .i64 (s_1.1+1),wrap .i64 (s.1+1)),(s_1.1,wrap .i64 (s.1+1)),
 r_8.1,r_8.2.1,r_8.2.2)).bind fun r_9=>((idxM x.1.2.2.2 (wrap .i64 (wrap .i64 (wrap .i64 (s.1+1)*wrap .i64 (x.1.1+1)) +
 wrap .i64 (s_1.1+1)))).bind fun r=>some r).bind fun (ov_5:Int)=>(m48 ((s_1.1,wrap .i64 (s.1+1)),(s_1.1,s.1),r_8.1,r_8.2.1,
 r_8.2.2)).bind fun r_10=>((idxM x.1.2.2.2 (wrap .i64 (wrap .i64 (wrap .i64 (s.1+1)*wrap .i64 (x.1.1+1))+s_1.1))).bind
 fun r=>some r).bind fun (ov_6:Int)=>(m48 ((s_1.1,s.1),(wrap .i64 (s_1.1+1),wrap .i64 (s.1+1)),r_8.1,r_8.2.1,r_8.2.2)).bind fun r
 => some (wrap .i64 (wrap .i64 (wrap .i64 (0+wrap .i64 (ov_4*r_9))+wrap .i64 (ov_5*r_10))+wrap .i64 (ov_6 *
 r)))).bind fun (ov_4:Int)=>(m25F (wrap .i64 (wrap .i64 (wrap .i64 (wrap .i64 (r_4.1*wrap .i64 (wrap IntKind.i64
 (r_6.2.1*r_8.2.2)-wrap .i64 (r_6.2.2*r_8.2.1)))-wrap .i64 (r_4.2.1*wrap .i64 (wrap .i64 (r_6.1*r_8.2.2)-wrap
 IntKind.i64 (r_6.2.2*r_8.1))))+wrap .i64 (r_4.2.2*wrap .i64 (wrap .i64 (r_6.1*r_8.2.1)-wrap .i64 (r_6.2.1*r_8.1)))) *
 wrap .i64 (wrap .i64 (wrap .i64 (wrap .i64 (ov_2*r_6.2.2)*r_8.2.2)+wrap .i64 (wrap .i64 (ov_3*r_4.2.2) *
 r_8.2.2))+wrap .i64 (wrap .i64 (ov_4*r_4.2.2)*r_6.2.2))),wrap .i64 (wrap .i64 (6*wrap .i64 (wrap IntKind.i64
 (r_4.2.2*r_6.2.2)*r_8.2.2))*wrap .i64 (wrap .i64 (r_4.2.2*r_6.2.2)*r_8.2.2)))).bind fun r_9=>(m49F ((s_2.2.1,s_2.2.2),r_9.1.1,
 r_9.1.2)).bind fun r=>some (Sum.inl (wrap .i64 (s_2.1+1),r.1.1,r.1.2)) else some (Sum.inr (s_2.2.1,s_2.2.2))) (2,o_2.1,o_2.2)).bind fun o =>
 some (Sum.inl (wrap .i64 (s_1.1+1),o.1,o.2)) else some (Sum.inr (s_1.2.1,s_1.2.2))) (0,s.2.1,s.2.2)).bind fun o=>some (Sum.inl (wrap
 IntKind.i64 (s.1+1),o.1,o.2)) else some (Sum.inr (s.2.1,s.2.2))) (0,r_2.1.1,r_2.1.2)).bind fun o=>some (o.1,o.2)).bind fun (ov:List UInt8×List
 UInt8)=>some ((ov_1.1,ov_1.2),(ov.1,ov.2),0)
theorem le17 (x):Le (m17F x) (m17 x):=by
 unfold m17F m17
 repeat' first | with_reducible exact le25 _ | with_reducible exact le28 _ | with_reducible exact le31 _ | with_reducible exact le49 _ | with_reducible exact le72 _ | with_reducible exact Le.refl _ | intro _ | apply Le.bind | apply Le.cond | apply Le.nil | apply Le.loop | apply Le.elim
def m18F:((Int×Int×List Int×List Int)×Int)→Option ((List UInt8×List UInt8)×(List UInt8×List UInt8)×Int) :=
 fun x=>(m31F (x.1.1,x.1.2.1,x.1.2.2.1,x.1.2.2.2)).bind fun r=>(bif PE.notM (PE.notM r) then m36 (x.2,0,100) else some false).bind fun r_1=>bif PE.orM
 (PE.notM r) (PE.notM r_1) then some (([],[]),([],[]),250) else ((m25F (0,1)).bind fun r_2=>(loopF (fun (s:Int×List UInt8×List UInt8)=>bif ltM
 s.1 x.1.2.1 then (loopF (fun (s_1:Int×List UInt8×List UInt8)=>bif ltM s_1.1 x.1.1 then (((idxM x.1.2.2.1 (wrap .i64 (wrap .i64 (s.1 *
 wrap .i64 (x.1.1+1))+s_1.1))).bind fun r=>some r).bind fun (ov:Int)=>((idxM x.1.2.2.1 (wrap .i64 (wrap .i64 (s.1*wrap
 IntKind.i64 (x.1.1+1))+wrap .i64 (s_1.1+1)))).bind fun r=>some r).bind fun (ov_1:Int)=>((idxM x.1.2.2.1 (wrap .i64 (wrap IntKind.i64
 (wrap .i64 (s.1+1)*wrap .i64 (x.1.1+1))+wrap .i64 (s_1.1+1)))).bind fun r=>some r).bind fun (ov_2:Int)=>(sortI [ov,ov_1,
 ov_2]).bind fun r_3=>(chkM 0 (lenM r_3)).bind fun r_4=>(idxM r_3 0).bind fun r_5=>bif ltM x.2 r_5 then (m25F (1,2)).bind fun r_6=>(m49F ((s_1.2.1,
 s_1.2.2),r_6.1.1,r_6.1.2)).bind fun r=>some (r.1.1,r.1.2) else (chkM 1 (lenM r_3)).bind fun r_6=>(idxM r_3 1).bind fun r_7=>bif ltM x.2 r_7 then
 (m25F (1,2)).bind fun r_8=>(m49F ((s_1.2.1,s_1.2.2),r_8.1.1,r_8.1.2)).bind fun r_9=>(chkM 0 (lenM r_3)).bind fun r_10=>(idxM r_3 0).bind fun r_11 =>
 (chkM 0 (lenM r_3)).bind fun r_12=>(idxM r_3 0).bind fun r_13=>(chkM 1 (lenM r_3)).bind fun r_14=>(idxM r_3 1).bind fun r_15=>(chkM 0 (lenM r_3)).bind
 fun r_16=>(idxM r_3 0).bind fun r_17=>(chkM 2 (lenM r_3)).bind fun r_18=>(idxM r_3 2).bind fun r_19=>(chkM 0 (lenM r_3)).bind fun r_20=>(idxM r_3
 0).bind fun r_21=>(m25F (wrap .i64 (wrap .i64 (negM (wrap .i64 (x.2-r_11)))*wrap .i64 (x.2-r_13)),wrap .i64 (wrap
 IntKind.i64 (2*wrap .i64 (r_15-r_17))*wrap .i64 (r_19-r_21)))).bind fun r_22=>(m49F ((r_9.1.1,r_9.1.2),r_22.1.1,r_22.1.2)).bind fun
 r=>some (r.1.1,r.1.2) else (chkM 2 (lenM r_3)).bind fun r_8=>(idxM r_3 2).bind fun r_9=>bif ltM x.2 r_9 then (chkM 2 (lenM r_3)).bind fun r_10=>(idxM
 r_3 2).bind fun r_11=>(chkM 2 (lenM r_3)).bind fun r_12=>(idxM r_3 2).bind fun r_13=>(chkM 2 (lenM r_3)).bind fun r_14=>(idxM r_3 2).bind fun r_15 =>
 (chkM 0 (lenM r_3)).bind fun r_16=>(idxM r_3 0).bind fun r_17=>(chkM 2 (lenM r_3)).bind fun r_18=>(idxM r_3 2).bind fun r_19=>(chkM 1 (lenM r_3)).bind
 fun r_20=>(idxM r_3 1).bind fun r_21=>(m25F (wrap .i64 (wrap .i64 (r_11-x.2)*wrap .i64 (r_13-x.2)),wrap .i64 (wrap
 IntKind.i64 (2*wrap .i64 (r_15-r_17))*wrap .i64 (r_19-r_21)))).bind fun r_22=>(m49F ((s_1.2.1,s_1.2.2),r_22.1.1,r_22.1.2)).bind fun
 r=>some (r.1.1,r.1.2) else some (s_1.2.1,s_1.2.2)).bind fun o=>(((idxM x.1.2.2.1 (wrap .i64 (wrap .i64 (s.1*wrap .i64 (x.1.1 +
 1))+s_1.1))).bind fun r=>some r).bind fun (ov:Int)=>((idxM x.1.2.2.1 (wrap .i64 (wrap .i64 (wrap .i64 (s.1+1)*wrap
 IntKind.i64 (x.1.1+1))+wrap .i64 (s_1.1+1)))).bind fun r=>some r).bind fun (ov_1:Int)=>((idxM x.1.2.2.1 (wrap .i64 (wrap IntKind.i64
 (wrap .i64 (s.1+1)*wrap .i64 (x.1.1+1))+s_1.1))).bind fun r=>some r).bind fun (ov_2:Int)=>(sortI [ov,ov_1,ov_2]).bind fun r_3 =>
 (chkM 0 (lenM r_3)).bind fun r_4=>(idxM r_3 0).bind fun r_5=>bif ltM x.2 r_5 then (m25F (1,2)).bind fun r_6=>(m49F ((o.1,o.2),r_6.1.1,r_6.1.2)).bind
 fun r=>some (r.1.1,r.1.2) else (chkM 1 (lenM r_3)).bind fun r_6=>(idxM r_3 1).bind fun r_7=>bif ltM x.2 r_7 then (m25F (1,2)).bind fun r_8=>(m49F
 ((o.1,o.2),r_8.1.1,r_8.1.2)).bind fun r_9=>(chkM 0 (lenM r_3)).bind fun r_10=>(idxM r_3 0).bind fun r_11=>(chkM 0 (lenM r_3)).bind fun r_12=>(idxM
 r_3 0).bind fun r_13=>(chkM 1 (lenM r_3)).bind fun r_14=>(idxM r_3 1).bind fun r_15=>(chkM 0 (lenM r_3)).bind fun r_16=>(idxM r_3 0).bind fun r_17 =>
 (chkM 2 (lenM r_3)).bind fun r_18=>(idxM r_3 2).bind fun r_19=>(chkM 0 (lenM r_3)).bind fun r_20=>(idxM r_3 0).bind fun r_21=>(m25F (wrap IntKind.i64
 (wrap .i64 (negM (wrap .i64 (x.2-r_11)))*wrap .i64 (x.2-r_13)),wrap .i64 (wrap .i64 (2*wrap .i64 (r_15 -
 r_17))*wrap .i64 (r_19-r_21)))).bind fun r_22=>(m49F ((r_9.1.1,r_9.1.2),r_22.1.1,r_22.1.2)).bind fun r=>some (r.1.1,r.1.2) else (chkM 2
 (lenM r_3)).bind fun r_8=>(idxM r_3 2).bind fun r_9=>bif ltM x.2 r_9 then (chkM 2 (lenM r_3)).bind fun r_10=>(idxM r_3 2).bind fun r_11=>(chkM 2 (lenM
 r_3)).bind fun r_12=>(idxM r_3 2).bind fun r_13=>(chkM 2 (lenM r_3)).bind fun r_14=>(idxM r_3 2).bind fun r_15=>(chkM 0 (lenM r_3)).bind fun r_16 =>
 (idxM r_3 0).bind fun r_17=>(chkM 2 (lenM r_3)).bind fun r_18=>(idxM r_3 2).bind fun r_19=>(chkM 1 (lenM r_3)).bind fun r_20=>(idxM r_3 1).bind fun
 r_21=>(m25F (wrap .i64 (wrap .i64 (r_11-x.2)*wrap .i64 (r_13-x.2)),wrap .i64 (wrap .i64 (2*wrap IntKind.i64
 (r_15-r_17))*wrap .i64 (r_19-r_21)))).bind fun r_22=>(m49F ((o.1,o.2),r_22.1.1,r_22.1.2)).bind fun r=>some (r.1.1,r.1.2) else some (o.1,
 o.2)).bind fun o=>some (Sum.inl (wrap .i64 (s_1.1+1),o.1,o.2)) else some (Sum.inr (s_1.2.1,s_1.2.2))) (0,s.2.1,s.2.2)).bind fun o=>some
 (Sum.inl (wrap .i64 (s.1+1),o.1,o.2)) else some (Sum.inr (s.2.1,s.2.2))) (0,r_2.1.1,r_2.1.2)).bind fun o=>some (o.1,o.2)).bind fun (ov:List
 UInt8×List UInt8)=>((m25F (0,1)).bind fun r_2=>(loopF (fun (s:Int×List UInt8×List UInt8)=>bif ltM s.1 x.1.2.1 then (loopF (fun (s_1:Int ×
 List UInt8×List UInt8)=>bif ltM s_1.1 x.1.1 then (((idxM x.1.2.2.2 (wrap .i64 (wrap .i64 (s.1*wrap .i64 (x.1.1+1)) +
 s_1.1))).bind fun r=>some r).bind fun (ov_1:Int)=>((idxM x.1.2.2.2 (wrap .i64 (wrap .i64 (s.1*wrap .i64 (x.1.1+1))+wrap
 IntKind.i64 (s_1.1+1)))).bind fun r=>some r).bind fun (ov_2:Int)=>((idxM x.1.2.2.2 (wrap .i64 (wrap .i64 (wrap .i64 (s.1+1) *
 wrap .i64 (x.1.1+1))+wrap .i64 (s_1.1+1)))).bind fun r=>some r).bind fun (ov_3:Int)=>(sortI [ov_1,ov_2,ov_3]).bind fun r_3 =>
 (chkM 0 (lenM r_3)).bind fun r_4=>(idxM r_3 0).bind fun r_5=>bif ltM x.2 r_5 then (m25F (1,2)).bind fun r_6=>(m49F ((s_1.2.1,s_1.2.2),r_6.1.1,
 r_6.1.2)).bind fun r=>some (r.1.1,r.1.2) else (chkM 1 (lenM r_3)).bind fun r_6=>(idxM r_3 1).bind fun r_7=>bif ltM x.2 r_7 then (m25F (1,2)).bind fun
 r_8=>(m49F ((s_1.2.1,s_1.2.2),r_8.1.1,r_8.1.2)).bind fun r_9=>(chkM 0 (lenM r_3)).bind fun r_10=>(idxM r_3 0).bind fun r_11=>(chkM 0 (lenM
 r_3)).bind fun r_12=>(idxM r_3 0).bind fun r_13=>(chkM 1 (lenM r_3)).bind fun r_14=>(idxM r_3 1).bind fun r_15=>(chkM 0 (lenM r_3)).bind fun r_16 =>
 (idxM r_3 0).bind fun r_17=>(chkM 2 (lenM r_3)).bind fun r_18=>(idxM r_3 2).bind fun r_19=>(chkM 0 (lenM r_3)).bind fun r_20=>(idxM r_3 0).bind fun
 r_21=>(m25F (wrap .i64 (wrap .i64 (negM (wrap .i64 (x.2-r_11)))*wrap .i64 (x.2-r_13)),wrap .i64 (wrap IntKind.i64
 (2*wrap .i64 (r_15-r_17))*wrap .i64 (r_19-r_21)))).bind fun r_22=>(m49F ((r_9.1.1,r_9.1.2),r_22.1.1,r_22.1.2)).bind fun r=>some
 (r.1.1,r.1.2) else (chkM 2 (lenM r_3)).bind fun r_8=>(idxM r_3 2).bind fun r_9=>bif ltM x.2 r_9 then (chkM 2 (lenM r_3)).bind fun r_10=>(idxM r_3
 2).bind fun r_11=>(chkM 2 (lenM r_3)).bind fun r_12=>(idxM r_3 2).bind fun r_13=>(chkM 2 (lenM r_3)).bind fun r_14=>(idxM r_3 2).bind fun r_15 =>
 (chkM 0 (lenM r_3)).bind fun r_16=>(idxM r_3 0).bind fun r_17=>(chkM 2 (lenM r_3)).bind fun r_18=>(idxM r_3 2).bind fun r_19=>(chkM 1 (lenM r_3)).bind
 fun r_20=>(idxM r_3 1).bind fun r_21=>(m25F (wrap .i64 (wrap .i64 (r_11-x.2)*wrap .i64 (r_13-x.2)),wrap .i64 (wrap
 IntKind.i64 (2*wrap .i64 (r_15-r_17))*wrap .i64 (r_19-r_21)))).bind fun r_22=>(m49F ((s_1.2.1,s_1.2.2),r_22.1.1,r_22.1.2)).bind fun
 r=>some (r.1.1,r.1.2) else some (s_1.2.1,s_1.2.2)).bind fun o=>(((idxM x.1.2.2.2 (wrap .i64 (wrap .i64 (s.1*wrap .i64 (x.1.1 +
 1))+s_1.1))).bind fun r=>some r).bind fun (ov_1:Int)=>((idxM x.1.2.2.2 (wrap .i64 (wrap .i64 (wrap .i64 (s.1+1)*wrap
 IntKind.i64 (x.1.1+1))+wrap .i64 (s_1.1+1)))).bind fun r=>some r).bind fun (ov_2:Int)=>((idxM x.1.2.2.2 (wrap .i64 (wrap IntKind.i64
 (wrap .i64 (s.1+1)*wrap .i64 (x.1.1+1))+s_1.1))).bind fun r=>some r).bind fun (ov_3:Int)=>(sortI [ov_1,ov_2,ov_3]).bind fun r_3
 => (chkM 0 (lenM r_3)).bind fun r_4=>(idxM r_3 0).bind fun r_5=>bif ltM x.2 r_5 then (m25F (1,2)).bind fun r_6=>(m49F ((o.1,o.2),r_6.1.1,
 r_6.1.2)).bind fun r=>some (r.1.1,r.1.2) else (chkM 1 (lenM r_3)).bind fun r_6=>(idxM r_3 1).bind fun r_7=>bif ltM x.2 r_7 then (m25F (1,2)).bind fun
 r_8=>(m49F ((o.1,o.2),r_8.1.1,r_8.1.2)).bind fun r_9=>(chkM 0 (lenM r_3)).bind fun r_10=>(idxM r_3 0).bind fun r_11=>(chkM 0 (lenM r_3)).bind fun
 r_12=>(idxM r_3 0).bind fun r_13=>(chkM 1 (lenM r_3)).bind fun r_14=>(idxM r_3 1).bind fun r_15=>(chkM 0 (lenM r_3)).bind fun r_16=>(idxM r_3
 0).bind fun r_17=>(chkM 2 (lenM r_3)).bind fun r_18=>(idxM r_3 2).bind fun r_19=>(chkM 0 (lenM r_3)).bind fun r_20=>(idxM r_3 0).bind fun r_21 =>
 (m25F (wrap .i64 (wrap .i64 (negM (wrap .i64 (x.2-r_11)))*wrap .i64 (x.2-r_13)),wrap .i64 (wrap .i64 (2 *
 wrap .i64 (r_15-r_17))*wrap .i64 (r_19-r_21)))).bind fun r_22=>(m49F ((r_9.1.1,r_9.1.2),r_22.1.1,r_22.1.2)).bind fun r=>some
 (r.1.1,r.1.2) else (chkM 2 (lenM r_3)).bind fun r_8=>(idxM r_3 2).bind fun r_9=>bif ltM x.2 r_9 then (chkM 2 (lenM r_3)).bind fun r_10=>(idxM r_3
 2).bind fun r_11=>(chkM 2 (lenM r_3)).bind fun r_12=>(idxM r_3 2).bind fun r_13=>(chkM 2 (lenM r_3)).bind fun r_14=>(idxM r_3 2).bind fun r_15 =>
 (chkM 0 (lenM r_3)).bind fun r_16=>(idxM r_3 0).bind fun r_17=>(chkM 2 (lenM r_3)).bind fun r_18=>(idxM r_3 2).bind fun r_19=>(chkM 1 (lenM r_3)).bind
 fun r_20=>(idxM r_3 1).bind fun r_21=>(m25F (wrap .i64 (wrap .i64 (r_11-x.2)*wrap .i64 (r_13-x.2)),wrap .i64 (wrap
 IntKind.i64 (2*wrap .i64 (r_15-r_17))*wrap .i64 (r_19-r_21)))).bind fun r_22=>(m49F ((o.1,o.2),r_22.1.1,r_22.1.2)).bind fun r =>
 some (r.1.1,r.1.2) else some (o.1,o.2)).bind fun o=>some (Sum.inl (wrap .i64 (s_1.1+1),o.1,o.2)) else some (Sum.inr (s_1.2.1,s_1.2.2))) (0,
 s.2.1,s.2.2)).bind fun o=>some (Sum.inl (wrap .i64 (s.1+1),o.1,o.2)) else some (Sum.inr (s.2.1,s.2.2))) (0,r_2.1.1,r_2.1.2)).bind fun o =>
 some (o.1,o.2)).bind fun (ov_1:List UInt8×List UInt8)=>some ((ov.1,ov.2),(ov_1.1,ov_1.2),0)
theorem le18 (x):Le (m18F x) (m18 x):=by
 unfold m18F m18
 repeat' first | with_reducible exact le25 _ | with_reducible exact le31 _ | with_reducible exact le49 _ | with_reducible exact Le.refl _ | intro _ | apply Le.bind | apply Le.cond | apply Le.nil | apply Le.loop | apply Le.elim
def m35F:(Int×Int×List Int×List Int)→Option ((Int×Int×List Int×List Int)×Int) :=
 fun x=>(m31F (x.1,x.2.1,x.2.2.1,x.2.2.2)).bind fun r=>bif PE.notM r then some ((0,0,[],[]),250) else some ((x.1,x.2.1,x.2.2.1,x.2.2.2),0)
theorem le35 (x):Le (m35F x) (m35 x):=by
 unfold m35F m35
 repeat' first | with_reducible exact le31 _ | with_reducible exact Le.refl _ | intro _ | apply Le.bind | apply Le.cond | apply Le.nil | apply Le.loop | apply Le.elim
def m11F:(Int×Int×List Int×List Int)→Option ((Int×Int×List Int×List Int)×Int) :=
 fun x=>(m31F (x.1,x.2.1,x.2.2.1,x.2.2.2)).bind fun r=>bif PE.notM r then some ((0,0,[],[]),250) else ((loopF (fun (s:Int×List Int)=>bif ltM s.1
 (wrap .i64 (wrap .i64 (2*x.2.1)+1)) then (loopF (fun (s_1:Int×List Int)=>bif ltM s_1.1 (wrap .i64 (wrap .i64 (2*x.1) +
 1)) then (divM .i64 s_1.1 2).bind fun r_1=>(divM .i64 s.1 2).bind fun r_2=>(idxM x.2.2.1 (wrap .i64 (wrap .i64 (r_2*wrap
 IntKind.i64 (x.1+1))+r_1))).bind fun r_3=>(divM .i64 (wrap .i64 (s_1.1+1)) 2).bind fun r_4=>(divM .i64 (wrap .i64 (s.1 +
 1)) 2).bind fun r_5=>(idxM x.2.2.1 (wrap .i64 (wrap .i64 (r_5*wrap .i64 (x.1+1))+r_4))).bind fun r_6=>(appM (nat_lit 8) s_1.2
 [wrap .i64 (r_3+r_6)]).bind fun r=>some (Sum.inl (wrap .i64 (s_1.1+1),r)) else some (Sum.inr s_1.2)) (0,s.2)).bind fun o=>some
 (Sum.inl (wrap .i64 (s.1+1),o)) else some (Sum.inr s.2)) (0,[])).bind fun o=>some o).bind fun (ov:List Int)=>((loopF (fun (s:Int×List
 Int)=>bif ltM s.1 (wrap .i64 (wrap .i64 (2*x.2.1)+1)) then (loopF (fun (s_1:Int×List Int)=>bif ltM s_1.1 (wrap .i64 (wrap
 IntKind.i64 (2*x.1)+1)) then (divM .i64 s_1.1 2).bind fun r_1=>(divM .i64 s.1 2).bind fun r_2=>(idxM x.2.2.2 (wrap .i64 (wrap
 IntKind.i64 (r_2*wrap .i64 (x.1+1))+r_1))).bind fun r_3=>(divM .i64 (wrap .i64 (s_1.1+1)) 2).bind fun r_4=>(divM IntKind.i64
 (wrap .i64 (s.1+1)) 2).bind fun r_5=>(idxM x.2.2.2 (wrap .i64 (wrap .i64 (r_5*wrap .i64 (x.1+1))+r_4))).bind fun r_6 =>
 (appM (nat_lit 8) s_1.2 [wrap .i64 (r_3+r_6)]).bind fun r=>some (Sum.inl (wrap .i64 (s_1.1+1),r)) else some (Sum.inr s_1.2)) (0,
 s.2)).bind fun o=>some (Sum.inl (wrap .i64 (s.1+1),o)) else some (Sum.inr s.2)) (0,[])).bind fun o=>some o).bind fun (ov_1:List Int)=>(m35F
 (wrap .i64 (2*x.1),wrap .i64 (2*x.2.1),ov,ov_1)).bind fun r=>some ((r.1.1,r.1.2.1,r.1.2.2.1,r.1.2.2.2),r.2)
theorem le11 (x):Le (m11F x) (m11 x):=by
 unfold m11F m11
 repeat' first | with_reducible exact le31 _ | with_reducible exact le35 _ | with_reducible exact Le.refl _ | intro _ | apply Le.bind | apply Le.cond | apply Le.nil | apply Le.loop | apply Le.elim
def m20F:((Int×Int×List Int×List Int)×Int×Int×List Int×List Int)→Option ((Int×Int×List Int×List Int)×Int) :=
 fun x=>(m31F (x.1.1,x.1.2.1,x.1.2.2.1,x.1.2.2.2)).bind fun r=>(bif PE.notM (PE.notM r) then m31F (x.2.1,x.2.2.1,x.2.2.2.1,x.2.2.2.2) else some
 false).bind fun r_1=>bif PE.orM (PE.orM (PE.orM (PE.notM r) (PE.notM r_1)) (PE.notM (eqM x.1.1 x.2.1))) (PE.notM (eqM x.1.2.1 x.2.2.1)) then some ((0,0,
 [],[]),250) else (mo54 x.1.2.2.1).bind fun r_2=>(mo54 x.1.2.2.2).bind fun r_3=>(loopF (fun (s:Int×List Int×List Int)=>bif ltM s.1 (lenM r_2)
 then (chkM s.1 (lenM s.2.1)).bind fun r_4=>(idxM s.2.1 s.1).bind fun r_5=>(idxM x.2.2.2.1 s.1).bind fun r_6=>(chkM s.1 (lenM s.2.1)).bind fun r_7 =>
 (setM s.2.1 s.1 fun (x:Int)=>some (wrap .i64 (r_5+r_6))).bind fun r_8=>(chkM s.1 (lenM s.2.2)).bind fun r_9=>(idxM s.2.2 s.1).bind fun r_10
 => (idxM x.2.2.2.2 s.1).bind fun r_11=>(chkM s.1 (lenM s.2.2)).bind fun r_12=>(setM s.2.2 s.1 fun (x:Int)=>some (wrap .i64 (r_10+r_11))).bind
 fun r=>some (Sum.inl (wrap .i64 (s.1+1),r_8,r)) else some (Sum.inr (s.2.1,s.2.2))) (0,r_2,r_3)).bind fun o=>(m35F (x.1.1,x.1.2.1,o.1,
 o.2)).bind fun r=>some ((r.1.1,r.1.2.1,r.1.2.2.1,r.1.2.2.2),r.2)
theorem le20 (x):Le (m20F x) (m20 x):=by
 unfold m20F m20
 repeat' first | with_reducible exact le31 _ | with_reducible exact le35 _ | with_reducible exact Le.refl _ | intro _ | apply Le.bind | apply Le.cond | apply Le.nil | apply Le.loop | apply Le.elim
def m21F:((Int×Int×List Int×List Int)×Int)→Option ((Int×Int×List Int×List Int)×Int) :=
 fun x=>(m31F (x.1.1,x.1.2.1,x.1.2.2.1,x.1.2.2.2)).bind fun r=>(bif PE.notM (PE.notM r) then m36 (x.2,0,100) else some false).bind fun r_1=>bif PE.orM
 (PE.notM r) (PE.notM r_1) then some ((0,0,[],[]),250) else (mo54 x.1.2.2.1).bind fun r_2=>(mo54 x.1.2.2.2).bind fun r_3=>(loopF (fun (s:Int×List
 Int×List Int)=>bif ltM s.1 (lenM r_2) then (chkM s.1 (lenM s.2.1)).bind fun r_4=>(idxM s.2.1 s.1).bind fun r_5=>(chkM s.1 (lenM s.2.1)).bind fun r_6
 => (setM s.2.1 s.1 fun (x_1:Int)=>some (wrap .i64 (r_5*x.2))).bind fun r_7=>(chkM s.1 (lenM s.2.2)).bind fun r_8=>(idxM s.2.2 s.1).bind fun
 r_9=>(chkM s.1 (lenM s.2.2)).bind fun r_10=>(setM s.2.2 s.1 fun (x_1:Int)=>some (wrap .i64 (r_9*x.2))).bind fun r=>some (Sum.inl (wrap
 IntKind.i64 (s.1+1),r_7,r)) else some (Sum.inr (s.2.1,s.2.2))) (0,r_2,r_3)).bind fun o=>(m35F (x.1.1,x.1.2.1,o.1,o.2)).bind fun r=>some ((r.1.1,
 r.1.2.1,r.1.2.2.1,r.1.2.2.2),r.2)
theorem le21 (x):Le (m21F x) (m21 x):=by
 unfold m21F m21
 repeat' first | with_reducible exact le31 _ | with_reducible exact le35 _ | with_reducible exact Le.refl _ | intro _ | apply Le.bind | apply Le.cond | apply Le.nil | apply Le.loop | apply Le.elim
def m29F:((Int×Int×List Int×List Int)×Int×Int×List Int×List Int)→Option (List Int×Int) :=
 fun x=>(m31F (x.1.1,x.1.2.1,x.1.2.2.1,x.1.2.2.2)).bind fun r=>(bif PE.notM (PE.notM r) then m31F (x.2.1,x.2.2.1,x.2.2.2.1,x.2.2.2.2) else some
 false).bind fun r_1=>bif PE.orM (PE.orM (PE.orM (PE.notM r) (PE.notM r_1)) (PE.notM (eqM x.1.1 x.2.1))) (PE.notM (eqM x.1.2.1 x.2.2.1)) then some ([],250)
 else (mkM (lenM x.1.2.2.1) (lenM x.1.2.2.1) (nat_lit 8) 0).bind fun r_2=>(loopF (fun (s:Int×List Int)=>bif ltM s.1 (lenM r_2) then ((idxM x.1.2.2.1
 s.1).bind fun r_3=>(idxM x.1.2.2.2 s.1).bind fun r_4=>(idxM x.2.2.2.1 s.1).bind fun r_5=>(idxM x.2.2.2.2 s.1).bind fun r_6=>bif ltM (min r_4 r_6) (max
 r_3 r_5) then (chkM s.1 (lenM s.2)).bind fun r_7=>(setM s.2 s.1 fun (x:Int)=>some 2).bind fun r=>some r else bif PE.orM (PE.notM (PE.andM (eqM r_3
 r_5) (eqM r_4 r_6))) (PE.notM (eqM r_3 r_4)) then (chkM s.1 (lenM s.2)).bind fun r_7=>(setM s.2 s.1 fun (x:Int)=>some 1).bind fun r=>some r else some
 s.2).bind fun o=>some (Sum.inl (wrap .i64 (s.1+1),o)) else some (Sum.inr s.2)) (0,r_2)).bind fun o=>some (o,0)
theorem le29 (x):Le (m29F x) (m29 x):=by
 unfold m29F m29
 repeat' first | with_reducible exact le31 _ | with_reducible exact Le.refl _ | intro _ | apply Le.bind | apply Le.cond | apply Le.nil | apply Le.loop | apply Le.elim
def m30F:(List Int×List Int)→Option (Bool) :=
 fun x=>bif PE.notM (eqM (lenM x.1) (lenM x.2)) then some false else (loopF (fun (s:Int)=>bif ltM s (lenM x.1) then (idxM x.1 s).bind fun r=>(idxM x.2
 s).bind fun r_1=>bif PE.notM (eqM r r_1) then some (Sum.inr (Sum.inr false)) else some (Sum.inl (wrap .i64 (s+1))) else some (Sum.inr (Sum.inl
 ()))) 0).bind fun o=>Sum.elim (fun (t:Unit)=>some true) (fun (t:Bool)=>some t) o
theorem le30 (x):Le (m30F x) (m30 x):=by
 unfold m30F m30
 repeat' first | with_reducible exact Le.refl _ | intro _ | apply Le.bind | apply Le.cond | apply Le.nil | apply Le.loop | apply Le.elim
def m9F:Unit→Option (Bool) :=
 fun x=>(m13F ((1,1,[0,6,12,6],[0,6,12,6]),1,1,2)).bind fun r=>(m13F ((1,1,[0,6,12,6],[0,6,12,6]),1,3,4)).bind fun r_1=>(m13F ((1,
 1,[0,6,12,6],[0,6,12,6]),3,0,2)).bind fun r_2=>(m14F (1,1,[0,6,12,6],[0,6,12,6])).bind fun r_3=>(m16 (0,0)).bind fun r_4=>(m16 (1,
 0)).bind fun r_5=>(m16 (0,1)).bind fun r_6=>(m17F ((1,1,[0,6,12,6],[0,6,12,6]),[(r_4.1,r_4.2),(r_5.1,r_5.2),(r_6.1,r_6.2)])).bind fun r_7
 => (m16 (0,0)).bind fun r_8=>(m16 (2,0)).bind fun r_9=>(m16 (0,1)).bind fun r_10=>(m17F ((1,1,[0,6,12,6],[0,6,12,6]),[(r_8.1,r_8.2),
 (r_9.1,r_9.2),(r_10.1,r_10.2)])).bind fun r_11=>(m18F ((1,1,[0,6,12,6],[0,6,12,6]),3)).bind fun r_12=>(m18F ((1,1,[0,6,12,6],[0,6,12,
 6]),11)).bind fun r_13=>(m11F (1,1,[0,6,12,6],[0,6,12,6])).bind fun r_14=>(m20F ((1,1,[0,6,12,6],[0,6,12,6]),1,1,[0,6,12,6],[0,
 6,12,6])).bind fun r_15=>(m21F ((1,1,[0,6,12,6],[0,6,12,6]),3)).bind fun r_16=>(m21F ((1,1,[0,6,12,6],[0,6,12,6]),9)).bind fun r_17
 => (m29F ((1,1,[0,6,12,6],[0,6,12,6]),1,1,[0,6,12,6],[0,7,12,6])).bind fun r_18=>bif PE.orM (PE.orM (PE.orM (PE.orM (PE.orM (PE.orM
 (PE.orM (PE.orM (PE.orM (PE.orM (PE.orM (PE.notM (eqM r.2.2 0)) (PE.notM (eqM r_1.2.2 0))) (PE.notM (eqM r_2.2.2 250))) (PE.notM (eqM r_7.2.2 0))) (PE.notM
 (eqM r_11.2.2 250))) (PE.notM (eqM r_12.2.2 0))) (PE.notM (eqM r_13.2.2 0))) (PE.notM (eqM r_14.2 0))) (PE.notM (eqM r_15.2 0))) (PE.notM (eqM r_16.2 0)))
 (PE.notM (eqM r_17.2 250))) (PE.notM (eqM r_18.2 0)) then some false else (m30F (r_14.1.2.2.1,[0,6,12,12,6,12,24,18,12])).bind fun r_19=>(bif r_19
 then m30F (r_14.1.2.2.2,r_14.1.2.2.1) else some false).bind fun r_20=>(bif PE.andM (PE.andM (PE.andM r_19 r_20) (eqM r_14.1.1 2)) (eqM r_14.1.2.1 2) then
 m30F (r_15.1.2.2.2,[0,12,24,12]) else some false).bind fun r_21=>(bif PE.andM (PE.andM (PE.andM (PE.andM r_19 r_20) (eqM r_14.1.1 2)) (eqM r_14.1.2.1
 2)) r_21 then m30F (r_16.1.2.2.1,[0,18,36,18]) else some false).bind fun r_22=>(bif PE.andM (PE.andM (PE.andM (PE.andM (PE.andM (PE.andM (PE.andM (eqM
 r.1 6) (eqM r.2.1 6)) (eqM r_1.1 30)) (eqM r_1.2.1 30)) (eqM r_3.1 30)) (eqM r_3.2 30)) (PE.andM (PE.andM (PE.andM (PE.andM (PE.andM (eqsM r_7.1.1 [(50 :
 UInt8)]) (eqsM r_7.1.2 [(49:UInt8)])) (PE.andM (eqsM r_7.2.1.1 r_7.1.1) (eqsM r_7.2.1.2 r_7.1.2))) (PE.andM (eqsM r_12.1.1 [(49:UInt8),(51:UInt8)])
 (eqsM r_12.1.2 [(49:UInt8),(54:UInt8)]))) (PE.andM (eqsM r_13.1.1 [(49:UInt8)]) (eqsM r_13.1.2 [(49:UInt8),(52:UInt8),(52:UInt8)]))) (PE.andM
 (eqsM r_13.2.1.1 r_13.1.1) (eqsM r_13.2.1.2 r_13.1.2)))) (PE.andM (PE.andM (PE.andM (PE.andM (PE.andM r_19 r_20) (eqM r_14.1.1 2)) (eqM r_14.1.2.1 2)) r_21)
 r_22) then m30F (r_18.1,[0,1,0,0]) else some false).bind fun r_23=>(bif PE.andM (PE.andM (PE.andM (PE.andM (PE.andM (PE.andM (PE.andM (PE.andM (eqM r.1
 6) (eqM r.2.1 6)) (eqM r_1.1 30)) (eqM r_1.2.1 30)) (eqM r_3.1 30)) (eqM r_3.2 30)) (PE.andM (PE.andM (PE.andM (PE.andM (PE.andM (eqsM r_7.1.1 [(50:UInt8)])
 (eqsM r_7.1.2 [(49:UInt8)])) (PE.andM (eqsM r_7.2.1.1 r_7.1.1) (eqsM r_7.2.1.2 r_7.1.2))) (PE.andM (eqsM r_12.1.1 [(49:UInt8),(51:UInt8)]) (eqsM
 r_12.1.2 [(49:UInt8),(54:UInt8)]))) (PE.andM (eqsM r_13.1.1 [(49:UInt8)]) (eqsM r_13.1.2 [(49:UInt8),(52:UInt8),(52:UInt8)]))) (PE.andM (eqsM
 r_13.2.1.1 r_13.1.1) (eqsM r_13.2.1.2 r_13.1.2)))) (PE.andM (PE.andM (PE.andM (PE.andM (PE.andM r_19 r_20) (eqM r_14.1.1 2)) (eqM r_14.1.2.1 2)) r_21) r_22))
 r_23 then m31F (1,1,[0,6,12,6],[0,6,12,6]) else some false).bind fun r_24=>(bif PE.andM (PE.andM (PE.andM (PE.andM (PE.andM (PE.andM (PE.andM
 (PE.andM (PE.andM (eqM r.1 6) (eqM r.2.1 6)) (eqM r_1.1 30)) (eqM r_1.2.1 30)) (eqM r_3.1 30)) (eqM r_3.2 30)) (PE.andM (PE.andM (PE.andM (PE.andM (PE.andM
 (eqsM r_7.1.1 [(50:UInt8)]) (eqsM r_7.1.2 [(49:UInt8)])) (PE.andM (eqsM r_7.2.1.1 r_7.1.1) (eqsM r_7.2.1.2 r_7.1.2))) (PE.andM (eqsM r_12.1.1 [(49 :
 UInt8),(51:UInt8)]) (eqsM r_12.1.2 [(49:UInt8),(54:UInt8)]))) (PE.andM (eqsM r_13.1.1 [(49:UInt8)]) (eqsM r_13.1.2 [(49:UInt8),(52:UInt8),(52
 : UInt8)]))) (PE.andM (eqsM r_13.2.1.1 r_13.1.1) (eqsM r_13.2.1.2 r_13.1.2)))) (PE.andM (PE.andM (PE.andM (PE.andM (PE.andM r_19 r_20) (eqM r_14.1.1 2)) (eqM
 r_14.1.2.1 2)) r_21) r_22)) r_23) r_24 then m31F (0,0,[],[]) else some false).bind fun r_25=>some (PE.andM (PE.andM (PE.andM (PE.andM (PE.andM (PE.andM
 (PE.andM (PE.andM (PE.andM (PE.andM (eqM r.1 6) (eqM r.2.1 6)) (eqM r_1.1 30)) (eqM r_1.2.1 30)) (eqM r_3.1 30)) (eqM r_3.2 30)) (PE.andM (PE.andM (PE.andM
 (PE.andM (PE.andM (eqsM r_7.1.1 [(50:UInt8)]) (eqsM r_7.1.2 [(49:UInt8)])) (PE.andM (eqsM r_7.2.1.1 r_7.1.1) (eqsM r_7.2.1.2 r_7.1.2))) (PE.andM (eqsM
 r_12.1.1 [(49:UInt8),(51:UInt8)]) (eqsM r_12.1.2 [(49:UInt8),(54:UInt8)]))) (PE.andM (eqsM r_13.1.1 [(49:UInt8)]) (eqsM r_13.1.2 [(49:UInt8),
 (52:UInt8),(52:UInt8)]))) (PE.andM (eqsM r_13.2.1.1 r_13.1.1) (eqsM r_13.2.1.2 r_13.1.2)))) (PE.andM (PE.andM (PE.andM (PE.andM (PE.andM r_19 r_20) (eqM
 r_14.1.1 2)) (eqM r_14.1.2.1 2)) r_21) r_22)) r_23) r_24) (PE.notM r_25))
theorem le9 (x):Le (m9F x) (m9 x):=by
 unfold m9F m9
 repeat' first | with_reducible exact le11 _ | with_reducible exact le13 _ | with_reducible exact le14 _ | with_reducible exact le17 _ | with_reducible exact le18 _ | with_reducible exact le20 _ | with_reducible exact le21 _ | with_reducible exact le29 _ | with_reducible exact le30 _ | with_reducible exact le31 _ | with_reducible exact Le.refl _ | intro _ | apply Le.bind | apply Le.cond | apply Le.nil | apply Le.loop | apply Le.elim
end
end Go.Proofs.YtechphmljdgoaaaGreatDoor
namespace Go.Proofs.YtechphmljdgoaaaGreatDoor
open Go Go.Abs Go.PE
set_option maxRecDepth 100000 in
theorem saneF:m9F ()=some true:=by kernel_rfl
theorem sane_ok:m9 ()=some true:=(le9 ()).out saneF
end Go.Proofs.YtechphmljdgoaaaGreatDoor
namespace Go.PE
open Go Go.Abs
def InR:(t:Ty)→t.den→Prop
 | .int k,x=>k.has x
 | .bool,_=>True
 | .str,x=>List.length x≤maxLen
 | .list t,xs=>List.length xs≤maxLen∧∀ (i:Nat) (x:t.den),xs[i]? = some x→InR t x
 | .one t,x=>InR t x
 | .pair a b,x=>InR a x.1∧InR b x.2
def OkT:(l:List Ty)→Tup (l.map .d)→Prop
 | [],_=>True
 | [t],x=>InR t x
 | t::u::r,x=>InR t x.1∧OkT (u::r) x.2
section
variable {S:Cells} {w:World} {η:Eta}
theorem Rep.ok:∀ {t:Ty} {x:t.den} {cs:List Value},Rep S w t x cs→InR t x
 | .int _,_,_,h=>h.2
 | .bool,_,_,_=>trivial
 | .str,_,_,h=>h.2
 | .list t,xs,_,h=>by
  obtain ⟨base,cap,rfl,h1,h2,h3⟩:=h
  refine ⟨Nat.le_trans h1 h2,fun i x hx=>?_⟩
  rcases h3 with h3 | ⟨b,off,_,h3⟩
  ·have:xs=[]:=List.length_eq_zero_iff.1 h3
   rw [this] at hx
   cases hx
  ·obtain ⟨es,h4,_⟩:=h3 i x hx
   exact Rep.ok h4
 | .one t,x,cs,h=>by
  have h':Rep S w t x cs:=h
  exact Rep.ok (t:=t) h'
 | .pair a b,x,cs,h=>by
  obtain ⟨c1,c2,rfl,h1,h2⟩:=h
  exact ⟨Rep.ok h1,Rep.ok h2⟩
theorem cv_ok:∀ {t:Ty} {x:t.den} {vs:List Value},All2 (CM S w η) (t.cv x) vs→InR t x
 | .int _,_,_,.cons h .nil=>let ⟨_,a,_⟩:=h.2;Rep.ok a
 | .bool,_,_,_=>trivial
 | .str,_,_,.cons h .nil=>let ⟨_,a,_⟩:=h.2;Rep.ok a
 | .list _,_,_,.cons h .nil=>let ⟨_,a,_⟩:=h.2;Rep.ok a
 | .one t,x,vs,h=>by
  have h':All2 (CM S w η) (t.cv x) vs:=h
  exact cv_ok (t:=t) h'
 | .pair a b,x,vs,h=>by
  have h':All2 (CM S w η) (a.cv x.1++b.cv x.2) vs:=h
  obtain ⟨b1,b2,rfl,h1,h2⟩:=All2.split h'
  exact ⟨cv_ok h1,cv_ok h2⟩
theorem rv_ok {t:Ty} {x:t.den} {v:Value} (h:RM S w η (t.rv x) v):InR t x:=by
 unfold Ty.rv at h
 split at h
 ·obtain ⟨vs,_,h2⟩:=h
  exact cv_ok h2
 ·obtain ⟨_,cs,h2,_⟩:=h
  exact Rep.ok h2
theorem rvs_ok:∀ {l:List Ty} {x:Tup (l.map .d)} {vs:List Value},All2 (RM S w η) (rvs l x) vs→OkT l x
 | [],_,_,_=>trivial
 | [t],x,_,.cons h .nil=>rv_ok h
 | t::u::r,x,_,h=>by
  have h':All2 (RM S w η) (t.rv x.1::rvs (u::r) x.2) _:=h
  cases h' with
  | cons h1 h2=>exact ⟨rv_ok h1,rvs_ok (l:=u::r) h2⟩
end
theorem law_of_ok {args:List Ty} {m:Tup (args.map .d)→Option Bool} (h:∀ x,OkT args x→m x=some true) :
  ∀ (S:Cells) (w:World) (η:Eta) (vs:List Value) x,All2 (RM S w η) (rvs args x) vs→m x=some true:=fun _ _ _ _ x hx=>h x (rvs_ok hx)

theorem wrap_in {n:Int} (h1:-9223372036854775808≤n) (h2:n≤9223372036854775807):IntKind.wrap .i64 n=n:=Go.IntWalk.i64_in n ⟨h1,h2⟩
theorem idxM_nat {α:Type} (xs:List α) (i:Nat):idxM xs (i:Int)=xs[i]? := by
 unfold idxM
 rw [decide_eq_true (by omega:(0:Int)≤i)]
 simp
theorem idxM_lt {α:Type} {xs:List α} {i:Nat} (h:i<xs.length):idxM xs (i:Int)=some xs[i]:=by
 rw [idxM_nat,List.getElem?_eq_getElem h]
theorem idxM_of {α:Type} {xs:List α} {i:Int} (h0:0≤i) (h:i<xs.length):idxM xs i=some (xs[i.toNat]'(by omega)):=by
 unfold idxM
 rw [decide_eq_true h0]
 exact List.getElem?_eq_getElem _
theorem chkM_of {i n:Int} (h0:0≤i) (h:i<n):chkM i n=some ():=by
 unfold chkM
 rw [decide_eq_true h0,decide_eq_true h]
theorem appM_of {α:Type} {b:Nat} {xs ys:List α} (h:(xs.length+ys.length)*b≤140737488355328):appM b xs ys=some (xs++ys):=by
 unfold appM
 rw [decide_eq_true h]
theorem mkM_of {α:Type} {n c:Int} {b:Nat} {d:α} (h0:0≤n) (h:n≤c) (hb:c*b≤140737488355328):mkM n c b d=some (List.replicate n.toNat d):=by
 unfold mkM
 rw [decide_eq_true h0,decide_eq_true h,decide_eq_true hb]
theorem setM_of {α:Type} {xs:List α} {i:Int} {f:α→Option α} {y:α} (h0:0≤i) (h:i<xs.length) (hy:f (xs[i.toNat]'(by omega))=some y):setM xs i f=some (xs.set i.toNat y):=by
 unfold setM
 rw [idxM_of h0 h]
 simp only [hy]
theorem sliceM_of {α:Type} {xs:List α} {lo hi:Int} (h0:0≤lo) (h:lo≤hi) (h2:hi≤xs.length):sliceM xs lo hi=some ((xs.take hi.toNat).drop lo.toNat):=by
 unfold sliceM
 rw [decide_eq_true h0,decide_eq_true h,decide_eq_true h2]
theorem loopM_inv {σ β:Type} {body:σ→Option (σ⊕β)} (P:Nat→σ→Prop) (Q:β→Prop) (n:Nat)
  (h:∀ k s,k≤n→P k s→(∃ s',k<n∧body s=some (.inl s')∧P (k+1) s')∨∃ r,body s=some (.inr r)∧Q r) :
  ∀ (m k:Nat) (s:σ),n-k=m→k≤n→P k s→∃ r,loopM body s=some r∧Q r:=by
 intro m
 induction m with
 | zero =>
  intro k s hm hk hP
  rcases h k s hk hP with ⟨s',hlt,_⟩ | ⟨r,h1,h2⟩
  ·omega
  ·exact ⟨r,by rw [loopM_eq,h1];rfl,h2⟩
 | succ m ih =>
  intro k s hm hk hP
  rcases h k s hk hP with ⟨s',hlt,h1,h2⟩ | ⟨r,h1,h2⟩
  ·obtain ⟨r,h3,h4⟩:=ih (k+1) s' (by omega) (by omega) h2
   exact ⟨r,by rw [loopM_eq,h1];exact h3,h4⟩
  ·exact ⟨r,by rw [loopM_eq,h1];rfl,h2⟩
theorem loopM_from {σ β:Type} {body:σ→Option (σ⊕β)} (P:Nat→σ→Prop) (Q:β→Prop) (n:Nat) {s:σ} (h0:P 0 s)
  (h:∀ k s,k≤n→P k s→(∃ s',k<n∧body s=some (.inl s')∧P (k+1) s')∨∃ r,body s=some (.inr r)∧Q r):∃ r,loopM body s=some r∧Q r :=
 loopM_inv P Q n h n 0 s (by omega) (by omega) h0
theorem loopM_fn {σ β:Type} {body:σ→Option (σ⊕β)} (g:Nat→σ) (n:Nat) {r:β} (h:∀ k,k<n→body (g k)=some (.inl (g (k+1)))) (he:body (g n)=some (.inr r)):loopM body (g 0)=some r:=by
 obtain ⟨r',h1,h2⟩:=loopM_from (body:=body) (fun k s=>s=g k) (fun x=>x=r) n (s:=g 0) rfl fun k s hk hs=>by
  subst hs
  by_cases hlt:k<n
  ·exact .inl ⟨_,hlt,h k hlt,rfl⟩
  ·have:k=n:=by omega
   subst this
   exact .inr ⟨r,he,rfl⟩
 rw [h1,h2]
end Go.PE
namespace Go.PE
open Go Go.Abs
def row {α:Type} (m:Nat) (g:Nat→α):List α:=(List.range m).map g
def rt {α:Type} (n:Nat) (len:Nat→Nat) (d:Nat→Nat→α):List (List α):=row n fun i=>row (len i) (d i)
def upd {α:Type} (d:Nat→Nat→α) (i j:Nat) (y:α):Nat→Nat→α:=fun a b=>if a=i∧b=j then y else d a b
section
variable {α:Type}
theorem row_length (m:Nat) (g:Nat→α):(row m g).length=m:=by simp [row]
theorem row_get {m:Nat} {g:Nat→α} {i:Nat} (h:i<m):(row m g)[i]? = some (g i):=by simp [row,h]
theorem row_idx {m:Nat} {g:Nat→α} {i:Nat} (h:i<m):idxM (row m g) (i:Int)=some (g i):=by rw [idxM_nat,row_get h]
theorem row_succ (m:Nat) (g:Nat→α):row (m+1) g=row m g++[g m]:=by simp [row,List.range_succ]
end
theorem bind_of {α β:Type} {o:Option α} {x:α} {f:α→Option β} {r:Option β} (h:o=some x) (h2:f x=r):Option.bind o f=r:=by
 rw [h];exact h2
theorem loopM_is {σ β:Type} {body:σ→Option (σ⊕β)} {s:σ} {r:β} (P:Nat→σ→Prop) (n:Nat) (h0:P 0 s)
  (h:∀ k s,k≤n→P k s→(∃ s',k<n∧body s=some (.inl s')∧P (k+1) s')∨body s=some (.inr r)):loopM body s=some r:=by
 obtain ⟨r',h1,h2⟩:=loopM_from P (fun x=>x=r) n h0 fun k s hk hP=>by
  rcases h k s hk hP with h | h
  ·exact .inl h
  ·exact .inr ⟨r,h,rfl⟩
 rw [h1,h2]
theorem count_loop {σ β:Type} {body:Int×σ→Option ((Int×σ)⊕β)} (g:Nat→σ) (n:Nat) {r:β} (h:∀ k,k<n→body ((k:Int),g k)=some (.inl ((k:Int)+1,g (k+1)))) (he:body ((n:Int),g n)=some (.inr r)) :
  loopM body ((0:Int),g 0)=some r :=
 loopM_fn (fun k=>((k:Int),g k)) n (fun k hk=>h k hk) he
end Go.PE
namespace Go.PE
open Go Go.Abs
def Ans {α:Type} (o:Option α) (Q:α→Prop):Prop:=∃ r,o=some r∧Q r
theorem Ans.is {α:Type} {o:Option α} {r:α} (h:Ans o (fun x=>x=r)):o=some r:=by
 obtain ⟨x,h1,h2⟩:=h
 rw [h1,h2]
theorem Ans.of {α:Type} {o:Option α} {r:α} {Q:α→Prop} (h:o=some r) (hQ:Q r):Ans o Q:=⟨r,h,hQ⟩
theorem Ans.some {α:Type} {r:α} {Q:α→Prop} (hQ:Q r):Ans (some r) Q:=⟨r,rfl,hQ⟩
theorem Ans.mono {α:Type} {o:Option α} {P Q:α→Prop} (h:Ans o P) (hQ:∀ x,P x→Q x):Ans o Q:=by
 obtain ⟨x,h1,h2⟩:=h
 exact ⟨x,h1,hQ x h2⟩
theorem Ans.bind {α β:Type} {o:Option α} {f:α→Option β} {P:α→Prop} {Q:β→Prop} (h:Ans o P) (hf:∀ x,P x→Ans (f x) Q):Ans (Option.bind o f) Q:=by
 obtain ⟨x,h1,h2⟩:=h
 rw [h1]
 exact hf x h2
theorem Ans.seq {α β:Type} {o:Option α} {f:α→Option β} {x:α} {Q:β→Prop} (h:o=Option.some x) (hf:Ans (f x) Q):Ans (Option.bind o f) Q:=by
 rw [h]
 exact hf
theorem Ans.cond {α:Type} {c:Bool} {a b:Option α} {Q:α→Prop} (ht:c=true→Ans a Q) (hf:c=false→Ans b Q):Ans (bif c then a else b) Q:=by
 cases c
 ·exact hf rfl
 ·exact ht rfl
def Nxt {σ β:Type} (P:σ→Prop) (Q:β→Prop):σ⊕β→Prop
 | .inl s=>P s
 | .inr r=>Q r
theorem Ans.loop {σ β:Type} {body:σ→Option (σ⊕β)} {s:σ} {Q:β→Prop} (P:Nat→σ→Prop) (n:Nat) (h0:P 0 s)
  (h:∀ k s,k≤n→P k s→Ans (body s) (Nxt (fun s'=>k<n∧P (k+1) s') Q)):Ans (loopM body s) Q:=by
 refine loopM_from P Q n h0 fun k s hk hP=>?_
 obtain ⟨o,h1,h2⟩:=h k s hk hP
 cases o with
 | inl s'=>exact .inl ⟨s',h2.1,h1,h2.2⟩
 | inr r=>exact .inr ⟨r,h1,h2⟩
theorem ltI {a b:Int} (h:a<b):ltM a b=true:=decide_eq_true h
theorem geI {a b:Int} (h:b≤a):ltM a b=false:=decide_eq_false (by omega)
theorem leI {a b:Int} (h:a≤b):leM a b=true:=decide_eq_true h
theorem gtI {a b:Int} (h:b<a):leM a b=false:=decide_eq_false (by omega)
theorem eqI {a b:Int} (h:a=b):eqM a b=true:=decide_eq_true h
theorem neI {a b:Int} (h:a≠b):eqM a b=false:=decide_eq_false h
theorem notT:notM true=false:=rfl
theorem notF:notM false=true:=rfl
theorem orT (b:Bool):orM true b=true:=rfl
theorem orF (b:Bool):orM false b=b:=rfl
theorem andT (b:Bool):andM true b=b:=rfl
theorem andF (b:Bool):andM false b=false:=rfl
def pk (c n:Int):Int:=(if c<0 then -(c+1) else c) % n
theorem pk_lo {c n:Int} (h:0<n):0≤pk c n:=Int.emod_nonneg _ (by omega)
theorem pk_hi {c n:Int} (h:0<n):pk c n<n:=Int.emod_lt_of_pos _ h
theorem remM_of {a b:Int} (ha:0≤a) (hb:0<b):remM a b=some (a % b):=by
 unfold remM
 rw [decide_eq_false (by omega)]
 show some (a.tmod b)=some (a % b)
 rw [Int.tmod_eq_emod_of_nonneg ha]
theorem divM_pos {k:IntKind} {a b:Int} (hb:b≠0):divM k a b=some (k.wrap (a.tdiv b)):=by
 unfold divM
 rw [decide_eq_false hb]
theorem pk_text {c n:Int} (hc:IntKind.i64.has c) (hn:0<n) :
  Option.bind (bif ltM c (0:Int) then some (IntKind.wrap .i64 (negM (IntKind.wrap .i64 (c+(1:Int))))) else some c) (fun (o:Int)=>Option.bind (remM o n) fun (r:Int)=>some r)=some (pk c n):=by
 have hc':-9223372036854775808≤c∧c≤9223372036854775807:=hc
 unfold pk
 by_cases h:c<0
 ·rw [ltI h,cond_true,Option.bind_some,if_pos h,wrap_in (n:=c+1) (by omega) (by omega)]
  unfold negM
  rw [wrap_in (by omega) (by omega),remM_of (by omega) hn]
  rfl
 ·rw [geI (by omega),cond_false,Option.bind_some,if_neg h,remM_of (by omega) hn]
  rfl
theorem row_idxI {α:Type} {m:Nat} {g:Nat→α} {i:Int} (h0:0≤i) (h:i<m):idxM (row m g) i=some (g i.toNat):=by
 obtain ⟨k,rfl⟩:=Int.eq_ofNat_of_zero_le h0
 exact row_idx (by omega)
theorem app_row {α:Type} {b m:Nat} {g:Nat→α} (hb:(m+1)*b≤140737488355328):appM b (row m g) [g m]=some (row (m+1) g):=by
 rw [appM_of (by rw [row_length];simpa using hb),row_succ]
theorem app_rowOf {α:Type} {b m:Nat} {g:Nat→α} {y:α} (hy:y=g m) (hb:(m+1)*b≤140737488355328):appM b (row m g) [y]=some (row (m+1) g):=by
 rw [hy,app_row hb]
end Go.PE
namespace Go.Proofs.YtechphmljdgoaaaGreatDoor
open Go Go.Abs Go.PE
abbrev i64 (n:Int):Prop:=-9223372036854775808≤n∧n≤9223372036854775807
def nn (W H:Nat):Nat:=(W+1)*(H+1)
def fd (W H:Nat) (lo hi:Nat→Int):Int×Int×List Int×List Int:=((W:Int),(H:Int),row (nn W H) lo,row (nn W H) hi)
structure OkF (W H:Nat) (lo hi:Nat→Int):Prop where
 w1:1≤W
 w6:W≤6
 h1:1≤H
 h6:H≤6
 l0:∀ i,i<nn W H→0≤lo i
 lh:∀ i,i<nn W H→lo i≤hi i
 h9:∀ i,i<nn W H→hi i≤100
theorem nn_bd {W H:Nat} (h1:W≤6) (h2:H≤6):nn W H≤49:=Nat.mul_le_mul (show W+1≤7 by omega) (show H+1≤7 by omega)
theorem lenR {α:Type} (m:Nat) (g:Nat→α):lenM (row m g)=(m:Int):=by show ((row m g).length:Int)=_;rw [row_length]
theorem lenL {α:Type} (l:List α):lenM l=(l.length:Int):=rfl
theorem nn_wrap {W H:Nat} (h1:W≤6) (h2:H≤6):IntKind.wrap .i64 (IntKind.wrap .i64 ((W:Int)+1)*IntKind.wrap .i64 ((H:Int)+1))=(nn W H:Int):=by
 have:=nn_bd h1 h2
 have e:((W:Int)+1)*((H:Int)+1)=(nn W H:Int):=by unfold nn;rw [Int.natCast_mul];rfl
 rw [wrap_in (n:=(W:Int)+1) (by omega) (by omega),wrap_in (n:=(H:Int)+1) (by omega) (by omega),e,wrap_in (by omega) (by omega)]
theorem pick_ok {c n:Int} (hc:i64 c) (hn:0<n):m32 (c,n)=some (pk c n):=pk_text hc hn
theorem pickL_ok {c n:Int} (hc:i64 c) (hn:0<n):m12 (c,n)=some (pk c n):=pk_text hc hn
theorem within_ok (n lo hi:Int):m36 (n,lo,hi)=some (decide (lo≤n∧n≤hi)):=by
 unfold m36
 dsimp only
 by_cases h1:lo≤n
 ·rw [leI h1,andT]
  by_cases h2:n≤hi
  ·rw [leI h2,decide_eq_true ⟨h1,h2⟩]
  ·rw [gtI (by omega),decide_eq_false (by omega)]
 ·rw [gtI (by omega),andF,decide_eq_false (by omega)]
theorem pass_loop {α:Type} {n:Nat} {body:Int→Option (Int⊕(Unit⊕α))} (hb:∀ k,k<n→body (k:Int)=some (.inl ((k:Int)+1))) (he:body (n:Int)=some (.inr (.inl ()))):loopM body 0=some (.inl ()) :=
 loopM_fn (fun k=>(k:Int)) n hb he
theorem valid_ok {W H:Nat} {lo hi:Nat→Int} (h:OkF W H lo hi):m31 (fd W H lo hi)=some true:=by
 have h49:=nn_bd h.w6 h.h6
 have w1:=h.w1
 have w6:=h.w6
 have h1:=h.h1
 have h6:=h.h6
 unfold m31 fd
 dsimp only
 rw [within_ok,Option.bind_some,decide_eq_true (by omega),notT,notF,cond_true,within_ok,Option.bind_some,decide_eq_true (by omega),notT,orF,orF,lenR,lenR,nn_wrap w6 h6,eqI rfl,notT,orF,cond_false]
 refine bind_of (pass_loop (n:=nn W H) (fun k hk=>?_) ?_) rfl
 ·have a:=h.l0 k hk
  have b:=h.lh k hk
  have c:=h.h9 k hk
  rw [ltI (by omega),cond_true,row_idx hk,Option.bind_some,row_idx hk,Option.bind_some,within_ok,Option.bind_some,decide_eq_true (by omega),notT,notF,cond_true,Option.bind_some,orF,geI (by omega),cond_false,wrap_in (by omega) (by omega)]
 ·rw [geI (by omega),cond_false]
def src (x:List (Int×Int)) (i:Nat):Int×Int:=if x.length=0 then (7*(i:Int)+(i:Int)*(i:Int),0) else x.getD (i % x.length) (0,0)
def loF (most:Int) (x:List (Int×Int)) (i:Nat):Int:=pk (src x i).1 (most+1)
def hiF (most:Int) (x:List (Int×Int)) (i:Nat):Int:=min (loF most x i+pk (src x i).2 30) most
def szF (w size:Int):Nat:=(1+pk w size).toNat
theorem szF_bd {w size:Int} (h:1≤size) (h6:size≤6):1≤szF w size∧szF w size≤6∧(szF w size:Int)=1+pk w size∧szF w size≤size:=by
 have h1:=pk_lo (c:=w) (n:=size) (by omega)
 have h2:=pk_hi (c:=w) (n:=size) (by omega)
 unfold szF
 omega
theorem made_F {w h size most:Int} {x:List (Int×Int)} (hs:1≤size) (hs6:size≤6) (hm0:0≤most) (hm:most≤100):OkF (szF w size) (szF h size) (loF most x) (hiF most x):=by
 have a:=szF_bd (w:=w) hs hs6
 have b:=szF_bd (w:=h) hs hs6
 refine ⟨a.1,a.2.1,b.1,b.2.1,fun i _=>pk_lo (by omega),fun i _=>?_,fun i _=>?_⟩
 ·have h1:=pk_hi (c:=(src x i).1) (n:=most+1) (by omega)
  have h2:=pk_lo (c:=(src x i).2) (n:=30) (by omega)
  unfold hiF loF
  omega
 ·unfold hiF;omega
theorem src_ok {x:List (Int×Int)} (hx:∀ p∈x,i64 p.1∧i64 p.2) {i:Nat} (hi:i≤100):i64 (src x i).1∧i64 (src x i).2:=by
 unfold src
 by_cases h0:x.length=0
 ·rw [if_pos h0]
  have:=Int.mul_le_mul (show (i:Int)≤100 by omega) (show (i:Int)≤100 by omega) (by omega) (by omega)
  have h2:=Int.mul_nonneg (show (0:Int)≤i by omega) (show (0:Int)≤i by omega)
  unfold i64
  dsimp only
  omega
 ·rw [if_neg h0]
  have hlt:i % x.length<x.length:=Nat.mod_lt _ (by omega)
  have:x.getD (i % x.length) (0,0)∈x:=by simp [List.getD,hlt]
  exact hx _ this
theorem made_ok {w h size most:Int} {x:List (Int×Int)} (hw:i64 w) (hh:i64 h) (hs:1≤size) (hs6:size≤6) (hm0:0≤most) (hm:most≤100) (hx:∀ p∈x,i64 p.1∧i64 p.2) (hxl:x.length≤maxLen):m10 (w,h,size,most,x)=some (fd (szF w size) (szF h size) (loF most x) (hiF most x)):=by
 have hxl:x.length≤9223372036854775807:=hxl
 obtain ⟨a1,a2,a3,_⟩:=szF_bd (w:=w) hs hs6
 obtain ⟨b1,b2,b3,_⟩:=szF_bd (w:=h) hs hs6
 have h49:=nn_bd a2 b2
 unfold m10
 dsimp only
 rw [pick_ok hw (by omega),Option.bind_some,pick_ok hh (by omega),Option.bind_some,← a3,← b3,wrap_in (n:=((szF w size:Nat):Int)) (by omega) (by omega),wrap_in (n:=((szF h size:Nat):Int)) (by omega) (by omega)]
 refine bind_of (count_loop (fun k=>((szF w size:Int),(szF h size:Int),row k (loF most x),row k (hiF most x))) (nn (szF w size) (szF h size)) (r:=((szF w size:Int),(szF h size:Int),row (nn (szF w size) (szF h size)) (loF most x),row (nn (szF w size) (szF h size)) (hiF most x))) (fun k hk=>?_) ?_) rfl
 ·have hsrc:=src_ok hx (show k≤100 by omega)
  dsimp only
  rw [nn_wrap a2 b2,ltI (by omega),cond_true]
  refine bind_of (x:=src x k) ?_ ?_
  ·unfold src
   by_cases h0:x.length=0
   ·rw [geI (by rw [lenL];omega),cond_false,if_pos h0]
    have:=Int.mul_le_mul (show (k:Int)≤100 by omega) (show (k:Int)≤100 by omega) (by omega) (by omega)
    have h2:=Int.mul_nonneg (show (0:Int)≤k by omega) (show (0:Int)≤k by omega)
    rw [wrap_in (n:=7*(k:Int)) (by omega) (by omega),wrap_in (n:=(k:Int)*k) (by omega) (by omega),wrap_in (by omega) (by omega)]
   ·have hlt:k % x.length<x.length:=Nat.mod_lt _ (by omega)
    rw [ltI (by rw [lenL];omega),cond_true,if_neg h0,lenL,remM_of (by omega) (by omega),Option.bind_some,← Int.natCast_emod,idxM_lt hlt,Option.bind_some]
    simp [List.getD,hlt]
  ·have l1:=pk_lo (c:=(src x k).1) (n:=most+1) (by omega)
   have l2:=pk_hi (c:=(src x k).1) (n:=most+1) (by omega)
   have g1:=pk_lo (c:=(src x k).2) (n:=30) (by omega)
   have g2:=pk_hi (c:=(src x k).2) (n:=30) (by omega)
   rw [wrap_in (n:=most+1) (by omega) (by omega),pick_ok hsrc.1 (by omega),Option.bind_some,app_rowOf (y:=pk (src x k).1 (most+1)) (g:=loF most x) rfl (by show (k+1)*8≤_;omega),Option.bind_some,pick_ok hsrc.2 (by omega),Option.bind_some,wrap_in (n:=_+pk (src x k).2 30) (by omega) (by omega),app_rowOf (y:=min (pk (src x k).1 (most+1)+pk (src x k).2 30) most) (g:=hiF most x) rfl (by show (k+1)*8≤_;omega),Option.bind_some,wrap_in (by omega) (by omega)]
 ·dsimp only
  rw [nn_wrap a2 b2,geI (by omega),cond_false]
def bwF (lo hi:Nat→Int) (v:List Int) (i:Nat):Int:=lo i+pk (if v.length=0 then (i:Int) else v.getD (i % v.length) 0) (hi i-lo i+1)
theorem bw_bd {lo hi:Nat→Int} {v:List Int} {i:Nat} (h:lo i≤hi i):lo i≤bwF lo hi v i∧bwF lo hi v i≤hi i:=by
 have h1:=pk_lo (c:=if v.length=0 then (i:Int) else v.getD (i % v.length) 0) (n:=hi i-lo i+1) (by omega)
 have h2:=pk_hi (c:=if v.length=0 then (i:Int) else v.getD (i % v.length) 0) (n:=hi i-lo i+1) (by omega)
 unfold bwF
 omega
theorem bw_F {W H:Nat} {lo hi:Nat→Int} (h:OkF W H lo hi) (v:List Int):OkF W H (bwF lo hi v) (bwF lo hi v) :=
 ⟨h.w1,h.w6,h.h1,h.h6,fun i hi=>Int.le_trans (h.l0 i hi) (bw_bd (h.lh i hi)).1,fun i hi=>Int.le_refl _,fun i hi=>Int.le_trans (bw_bd (h.lh i hi)).2 (h.h9 i hi)⟩
theorem between_ok {W H:Nat} {lo hi:Nat→Int} (h:OkF W H lo hi) {v:List Int} (hv:∀ x∈v,i64 x) (hvl:v.length≤maxLen):m23 (fd W H lo hi,v)=some (fd W H (bwF lo hi v) (bwF lo hi v)):=by
 have hvl:v.length≤9223372036854775807:=hvl
 have h49:=nn_bd h.w6 h.h6
 unfold m23 fd
 dsimp only
 refine bind_of (count_loop (fun k=>((W:Int),(H:Int),row k (bwF lo hi v),row k (bwF lo hi v))) (nn W H) (r:=((W:Int),(H:Int),row (nn W H) (bwF lo hi v),row (nn W H) (bwF lo hi v))) (fun k hk=>?_) ?_) rfl
 ·have a:=h.l0 k hk
  have b:=h.lh k hk
  have c:=h.h9 k hk
  have d:=bw_bd (v:=v) b
  dsimp only
  rw [lenR,ltI (by omega),cond_true]
  have hlt:v.length≠0→k % v.length<v.length:=fun h0=>Nat.mod_lt _ (by omega)
  have hi64:i64 (if v.length=0 then (k:Int) else v.getD (k % v.length) 0):=by
   by_cases h0:v.length=0
   ·rw [if_pos h0];unfold i64;omega
   ·rw [if_neg h0]
    have:=hlt h0
    have hm:v.getD (k % v.length) 0∈v:=by simp [List.getD,this]
    exact hv _ hm
  refine bind_of (x:=if v.length=0 then (k:Int) else v.getD (k % v.length) 0) ?_ ?_
  ·by_cases h0:v.length=0
   ·rw [geI (by rw [lenL];omega),cond_false,if_pos h0]
   ·have hlt:=hlt h0
    rw [ltI (by rw [lenL];omega),cond_true,if_neg h0,lenL,remM_of (by omega) (by omega),Option.bind_some,← Int.natCast_emod,idxM_lt hlt,Option.bind_some]
    simp [List.getD,hlt]
  ·have e:lo k+pk (if v.length=0 then (k:Int) else v.getD (k % v.length) 0) (hi k-lo k+1)=bwF lo hi v k:=rfl
   rw [row_idx hk,Option.bind_some,row_idx hk,Option.bind_some,Option.bind_some,wrap_in (n:=hi k-lo k) (by omega) (by omega),wrap_in (n:=hi k-lo k+1) (by omega) (by omega),pick_ok hi64 (by omega),Option.bind_some,e,wrap_in (n:=bwF lo hi v k) (by omega) (by omega),app_rowOf (y:=bwF lo hi v k) (g:=bwF lo hi v) rfl (by show (k+1)*8≤_;omega),Option.bind_some,Option.bind_some,wrap_in (by omega) (by omega)]
 ·dsimp only
  rw [lenR,geI (by omega),cond_false]
end Go.Proofs.YtechphmljdgoaaaGreatDoor
namespace Go.Proofs.YtechphmljdgoaaaGreatDoor
open Go Go.Abs Go.PE
def nv (W:Nat) (v:Nat→Int) (x y:Int):Int:=v (y*((W:Int)+1)+x).toNat
def lowT (W:Nat) (v:Nat→Int) (cx cy x y d:Int):Int:=(d-(x-cx*d))*nv W v cx cy+((x-cx*d)-(y-cy*d))*nv W v (cx+1) cy+(y-cy*d)*nv W v (cx+1) (cy+1)
def uppT (W:Nat) (v:Nat→Int) (cx cy x y d:Int):Int:=(d-(y-cy*d))*nv W v cx cy+((y-cy*d)-(x-cx*d))*nv W v cx (cy+1)+(x-cx*d)*nv W v (cx+1) (cy+1)
def atv (W H:Nat) (v:Nat→Int) (x y d:Int):Int :=
 if y-min (y / d) ((H:Int)-1)*d≤x-min (x / d) ((W:Int)-1)*d then lowT W v (min (x / d) ((W:Int)-1)) (min (y / d) ((H:Int)-1)) x y d
 else uppT W v (min (x / d) ((W:Int)-1)) (min (y / d) ((H:Int)-1)) x y d
theorem cell_bd {W:Nat} {x d:Int} (hW:1≤W) (hd:1≤d) (h0:0≤x) (h1:x≤W*d):0≤min (x / d) ((W:Int)-1)∧min (x / d) ((W:Int)-1)≤(W:Int)-1∧min (x / d) ((W:Int)-1)*d≤x∧x-min (x / d) ((W:Int)-1)*d≤d:=by
 have hq:=Int.ediv_nonneg h0 (show 0≤d by omega)
 have hm:x / d*d≤x:=Int.ediv_mul_le x (by omega)
 have hlt:x<(x / d+1)*d:=Int.lt_ediv_add_one_mul_self x (by omega)
 rw [Int.add_mul,Int.one_mul] at hlt
 by_cases h:x / d≤(W:Int)-1
 ·rw [Int.min_eq_left h]
  exact ⟨hq,h,hm,by omega⟩
 ·rw [Int.min_eq_right (by omega)]
  have e:((W:Int)-1)*d=W*d-d:=by rw [Int.sub_mul,Int.one_mul]
  have h2:(W:Int)*d≤x / d*d:=Int.mul_le_mul_of_nonneg_right (by omega) (by omega)
  exact ⟨by omega,Int.le_refl _,by omega,by omega⟩
end Go.Proofs.YtechphmljdgoaaaGreatDoor
namespace Go.Proofs.YtechphmljdgoaaaGreatDoor
open Go Go.Abs Go.PE
open Go.IntKind (wrap)
structure OkV (W H:Nat) (v:Nat→Int):Prop where
 w1:1≤W
 w6:W≤6
 h1:1≤H
 h6:H≤6
 v:∀ i,i<nn W H→0≤v i∧v i≤100
theorem OkF.okLo {W H:Nat} {lo hi:Nat→Int} (h:OkF W H lo hi):OkV W H lo:=⟨h.w1,h.w6,h.h1,h.h6,fun i hi=>by have:=h.l0 i hi;have:=h.lh i hi;have:=h.h9 i hi;omega⟩
theorem OkF.okHi {W H:Nat} {lo hi:Nat→Int} (h:OkF W H lo hi):OkV W H hi:=⟨h.w1,h.w6,h.h1,h.h6,fun i hi=>by have:=h.l0 i hi;have:=h.lh i hi;have:=h.h9 i hi;omega⟩
theorem node_bd {W H:Nat} {cx cy:Int} (x0:0≤cx) (x1:cx≤W) (y0:0≤cy) (y1:cy≤H):0≤cy*((W:Int)+1)∧0≤cy*((W:Int)+1)+cx∧cy*((W:Int)+1)+cx<nn W H:=by
 have h1:=Int.mul_nonneg y0 (show (0:Int)≤(W:Int)+1 by omega)
 have h2:=Int.mul_le_mul_of_nonneg_right y1 (show (0:Int)≤(W:Int)+1 by omega)
 have e:(nn W H:Int)=(H:Int)*((W:Int)+1)+((W:Int)+1):=by
  unfold nn
  rw [Int.natCast_mul,Int.mul_comm]
  show ((H:Int)+1)*((W:Int)+1)=_
  rw [Int.add_mul,Int.one_mul]
 omega
theorem nv_bd {W H:Nat} {v:Nat→Int} (h:OkV W H v) {cx cy:Int} (x0:0≤cx) (x1:cx≤W) (y0:0≤cy) (y1:cy≤H):0≤nv W v cx cy∧nv W v cx cy≤100:=by
 obtain ⟨_,b,c⟩:=node_bd x0 x1 y0 y1
 exact h.v _ (by omega)
theorem node_ok {W H:Nat} {v:Nat→Int} (w6:W≤6) (h6:H≤6) {cx cy:Int} (x0:0≤cx) (x1:cx≤W) (y0:0≤cy) (y1:cy≤H):idxM (row (nn W H) v) (wrap .i64 (wrap .i64 (cy*wrap .i64 ((W:Int)+1))+cx))=some (nv W v cx cy):=by
 obtain ⟨a,b,c⟩:=node_bd x0 x1 y0 y1
 have h49:=nn_bd w6 h6
 rw [wrap_in (n:=(W:Int)+1) (by omega) (by omega),wrap_in (n:=cy*_) (by omega) (by omega),wrap_in (by omega) (by omega),row_idxI b c];rfl
theorem prod_bd {a b A B:Int} (a0:0≤a) (a1:a≤A) (b0:0≤b) (b1:b≤B):0≤a*b∧a*b≤A*B :=
 ⟨Int.mul_nonneg a0 b0,Int.mul_le_mul a1 b1 b0 (by omega)⟩
def atE (W H:Int) (L:List Int) (x y d r_4 r_5:Int):Option Int :=
 (idxM L (wrap .i64 (wrap .i64 (wrap .i64 (min r_5 (wrap .i64 (H-1))+1)*wrap .i64 (W+1))+wrap .i64 (min r_4 (wrap .i64 (W-1))+1)))).bind fun r_6=>bif leM (wrap .i64 (y -
 wrap .i64 (min r_5 (wrap .i64 (H-1))*d))) (wrap .i64 (x-wrap .i64 (min r_4 (wrap .i64 (W-1)) *
 d))) then ((idxM L (wrap .i64 (wrap .i64 (min r_5 (wrap .i64 (H-1))*wrap .i64 (W+1))+min r_4 (wrap
 IntKind.i64 (W-1))))).bind fun r=>some r).bind fun (ov:Int)=>((idxM L (wrap .i64 (wrap .i64 (min r_5 (wrap IntKind.i64
 (H-1))*wrap .i64 (W+1))+wrap .i64 (min r_4 (wrap .i64 (W-1))+1)))).bind fun r=>some r).bind fun (ov_1:Int)
 => some (wrap .i64 (wrap .i64 (wrap .i64 (wrap .i64 (d-wrap .i64 (x-wrap .i64 (min r_4 (wrap
 IntKind.i64 (W-1))*d)))*ov)+wrap .i64 (wrap .i64 (wrap .i64 (x-wrap .i64 (min r_4 (wrap .i64 (W
 - 1))*d))-wrap .i64 (y-wrap .i64 (min r_5 (wrap .i64 (H-1))*d)))*ov_1))+wrap .i64 (wrap
 IntKind.i64 (y-wrap .i64 (min r_5 (wrap .i64 (H-1))*d))*r_6))) else ((idxM L (wrap .i64 (wrap
 IntKind.i64 (min r_5 (wrap .i64 (H-1))*wrap .i64 (W+1))+min r_4 (wrap .i64 (W-1))))).bind fun r=>some r).bind
 fun (ov:Int)=>((idxM L (wrap .i64 (wrap .i64 (wrap .i64 (min r_5 (wrap .i64 (H-1))+1)*wrap IntKind.i64
 (W+1))+min r_4 (wrap .i64 (W-1))))).bind fun r=>some r).bind fun (ov_1:Int)=>some (wrap .i64 (wrap .i64 (wrap
 IntKind.i64 (wrap .i64 (d-wrap .i64 (y-wrap .i64 (min r_5 (wrap .i64 (H-1))*d)))*ov)+wrap
 IntKind.i64 (wrap .i64 (wrap .i64 (y-wrap .i64 (min r_5 (wrap .i64 (H-1))*d))-wrap .i64 (x -
 wrap .i64 (min r_4 (wrap .i64 (W-1))*d)))*ov_1))+wrap .i64 (wrap .i64 (x-wrap .i64 (min r_4 (wrap
 IntKind.i64 (W-1))*d))*r_6)))
theorem atE_ok {W H:Nat} {v:Nat→Int} (h:OkV W H v) {x y d:Int} (hd:1≤d) (hd2:d≤60) (x0:0≤x) (x1:x≤W*d) (y0:0≤y) (y1:y≤H*d) :
  atE W H (row (nn W H) v) x y d (x / d) (y / d)=some (atv W H v x y d):=by
 have w1:=h.w1
 have w6:=h.w6
 have h1:=h.h1
 have h6:=h.h6
 obtain ⟨a0,a1,a2,a3⟩:=cell_bd w1 hd x0 x1
 obtain ⟨b0,b1,b2,b3⟩:=cell_bd h1 hd y0 y1
 unfold atE atv
 rw [wrap_in (n:=(W:Int)-1) (by omega) (by omega),wrap_in (n:=(H:Int)-1) (by omega) (by omega)]
 generalize min (x / d) ((W:Int)-1)=px at *
 generalize min (y / d) ((H:Int)-1)=py at *
 have p1:=prod_bd a0 (show px≤6 by omega) (show 0≤d by omega) hd2
 have p2:=prod_bd b0 (show py≤6 by omega) (show 0≤d by omega) hd2
 have n00:=nv_bd h (cx:=px) (cy:=py) a0 (by omega) b0 (by omega)
 have n10:=nv_bd h (cx:=px+1) (cy:=py) (by omega) (by omega) b0 (by omega)
 have n01:=nv_bd h (cx:=px) (cy:=py+1) a0 (by omega) (by omega) (by omega)
 have n11:=nv_bd h (cx:=px+1) (cy:=py+1) (by omega) (by omega) (by omega) (by omega)
 rw [wrap_in (n:=px*d) (by omega) (by omega),wrap_in (n:=py*d) (by omega) (by omega),wrap_in (n:=px+1) (by omega) (by omega),wrap_in (n:=py+1) (by omega) (by omega),wrap_in (n:=x-px*d) (by omega) (by omega),wrap_in (n:=y-py*d) (by omega) (by omega),
  node_ok w6 h6 (by omega) (by omega) (by omega) (by omega),Option.bind_some]
 unfold lowT uppT
 generalize hR:x-px*d=R at *
 generalize hU:y-py*d=U at *
 by_cases hc:U≤R
 ·have q1:=prod_bd (show 0≤d-R by omega) (show d-R≤60 by omega) n00.1 n00.2
  have q2:=prod_bd (show 0≤R-U by omega) (show R-U≤60 by omega) n10.1 n10.2
  have q3:=prod_bd (show 0≤U by omega) (show U≤60 by omega) n11.1 n11.2
  rw [leI hc,cond_true,if_pos hc,node_ok w6 h6 a0 (by omega) b0 (by omega),Option.bind_some,Option.bind_some,node_ok w6 h6 (by omega) (by omega) b0 (by omega),Option.bind_some,Option.bind_some,
   wrap_in (n:=d-R) (by omega) (by omega),wrap_in (n:=R-U) (by omega) (by omega),wrap_in (n:=(d-R)*_) (by omega) (by omega),wrap_in (n:=(R-U)*_) (by omega) (by omega),wrap_in (n:=U*_) (by omega) (by omega),wrap_in (n:=_+(R-U)*_) (by omega) (by omega),wrap_in (by omega) (by omega)]
 ·have q1:=prod_bd (show 0≤d-U by omega) (show d-U≤60 by omega) n00.1 n00.2
  have q2:=prod_bd (show 0≤U-R by omega) (show U-R≤60 by omega) n01.1 n01.2
  have q3:=prod_bd (show 0≤R by omega) (show R≤60 by omega) n11.1 n11.2
  rw [gtI (by omega),cond_false,if_neg hc,node_ok w6 h6 a0 (by omega) b0 (by omega),Option.bind_some,Option.bind_some,node_ok w6 h6 (by omega) (by omega) (by omega) (by omega),Option.bind_some,Option.bind_some,
   wrap_in (n:=d-U) (by omega) (by omega),wrap_in (n:=U-R) (by omega) (by omega),wrap_in (n:=(d-U)*_) (by omega) (by omega),wrap_in (n:=(U-R)*_) (by omega) (by omega),wrap_in (n:=R*_) (by omega) (by omega),wrap_in (n:=_+(U-R)*_) (by omega) (by omega),wrap_in (by omega) (by omega)]
def atR (W H:Nat) (lo hi:Nat→Int) (x y d:Int):Int×Int×Int:=if 1≤d∧d≤60∧0≤x∧x≤W*d∧0≤y∧y≤H*d then (atv W H lo x y d,atv W H hi x y d,0) else (0,0,250)
theorem wd_bd {W:Nat} {d:Int} (w6:W≤6) (hd:1≤d) (hd2:d≤60):wrap .i64 ((W:Int)*d)=W*d:=by
 have:=prod_bd (a:=(W:Int)) (b:=d) (by omega) (show (W:Int)≤6 by omega) (by omega) hd2
 rw [wrap_in (by omega) (by omega)]
theorem tdiv_nn {x d:Int} (hx:0≤x) (hx2:x≤1000000) (hd:1≤d):divM .i64 x d=some (x / d):=by
 have h1:=Int.ediv_nonneg hx (show 0≤d by omega)
 have h2:=Int.ediv_le_self d hx
 rw [divM_pos (by omega),Int.tdiv_eq_ediv_of_nonneg hx,wrap_in (by omega) (by omega)]
theorem at_ok {W H:Nat} {lo hi:Nat→Int} (h:OkF W H lo hi) (x y d:Int):m13 (fd W H lo hi,x,y,d)=some (atR W H lo hi x y d):=by
 have w6:=h.w6
 have h6:=h.h6
 unfold m13
 have v1:=valid_ok h
 unfold fd at v1 ⊢
 dsimp only
 rw [v1,Option.bind_some,notT,notF,cond_true,within_ok,Option.bind_some,orF]
 unfold atR
 by_cases hd:1≤d∧d≤60
 case neg=>rw [decide_eq_false hd,if_neg (by omega)];rfl
 rw [decide_eq_true hd,notT,notF,cond_true,wd_bd w6 hd.1 hd.2,within_ok,Option.bind_some,orF]
 by_cases hx:0≤x∧x≤(W:Int)*d
 case neg=>rw [decide_eq_false hx,if_neg (fun h=>hx ⟨h.2.2.1,h.2.2.2.1⟩)];rfl
 rw [decide_eq_true hx,notT,notF,cond_true,wd_bd h6 hd.1 hd.2,within_ok,Option.bind_some,orF]
 by_cases hy:0≤y∧y≤(H:Int)*d
 case neg=>rw [decide_eq_false hy,if_neg (fun h=>hy h.2.2.2.2)];rfl
 have p1:=prod_bd (a:=(W:Int)) (b:=d) (by omega) (show (W:Int)≤6 by omega) (by omega) hd.2
 have p2:=prod_bd (a:=(H:Int)) (b:=d) (by omega) (show (H:Int)≤6 by omega) (by omega) hd.2
 rw [decide_eq_true hy,notT,cond_false,if_pos ⟨hd.1,hd.2,hx.1,hx.2,hy.1,hy.2⟩,tdiv_nn hx.1 (by omega) hd.1,Option.bind_some,tdiv_nn hy.1 (by omega) hd.1,Option.bind_some]
 refine bind_of (atE_ok h.okLo hd.1 hd.2 hx.1 hx.2 hy.1 hy.2) ?_
 refine bind_of (atE_ok h.okHi hd.1 hd.2 hx.1 hx.2 hy.1 hy.2) rfl
end Go.Proofs.YtechphmljdgoaaaGreatDoor
namespace Go.Proofs.YtechphmljdgoaaaGreatDoor
open Go Go.Abs Go.PE
open Go.IntKind (wrap)
abbrev Cor:=Int×Int×Int
abbrev Tri:=Cor×Cor×Cor
def nd (W:Nat) (v:Nat→Int) (x y:Int):Cor:=(x,y,nv W v x y)
def triF (W:Nat) (v:Nat→Int) (k:Nat):Tri :=
 let cx:Int:=((k / 2 % W:Nat):Int)
 let cy:Int:=((k / 2 / W:Nat):Int)
 if k % 2=0 then (nd W v cx cy,nd W v (cx+1) cy,nd W v (cx+1) (cy+1)) else (nd W v cx cy,nd W v (cx+1) (cy+1),nd W v cx (cy+1))
theorem triF_low {W:Nat} (v:Nat→Int) {cx cy:Nat} (h:cx<W):triF W v (2*(cy*W+cx))=(nd W v cx cy,nd W v (cx+1) cy,nd W v (cx+1) (cy+1)):=by
 unfold triF
 rw [show 2*(cy*W+cx) / 2=cy*W+cx by omega,if_pos (by omega),Nat.mul_comm cy W,Nat.mul_add_mod,Nat.mod_eq_of_lt h,Nat.mul_add_div (by omega),Nat.div_eq_of_lt h,Nat.add_zero]
theorem triF_upp {W:Nat} (v:Nat→Int) {cx cy:Nat} (h:cx<W):triF W v (2*(cy*W+cx)+1)=(nd W v cx cy,nd W v (cx+1) (cy+1),nd W v cx (cy+1)):=by
 unfold triF
 rw [show (2*(cy*W+cx)+1) / 2=cy*W+cx by omega,if_neg (by omega),Nat.mul_comm cy W,Nat.mul_add_mod,Nat.mod_eq_of_lt h,Nat.mul_add_div (by omega),Nat.div_eq_of_lt h,Nat.add_zero]
def tSum (W:Nat) (v:Nat→Int) (k:Nat):Int:=(triF W v k).1.2.2+(triF W v k).2.1.2.2+(triF W v k).2.2.2.2
def sT (W:Nat) (v:Nat→Int):Nat→Int
 | 0=>0
 | k+1=>sT W v k+tSum W v k
theorem tSum_bd {W H:Nat} {v:Nat→Int} (h:OkV W H v) {k:Nat} (hk:k<2*(H*W)):0≤(triF W v k).1.2.2∧(triF W v k).1.2.2≤100∧0≤(triF W v k).2.1.2.2∧(triF W v k).2.1.2.2≤100∧0≤(triF W v k).2.2.2.2∧(triF W v k).2.2.2.2≤100:=by
 have w1:=h.w1
 have hc:k / 2<H*W:=by omega
 have hx:k / 2 % W<W:=Nat.mod_lt _ (by omega)
 have hy:k / 2 / W<H:=(Nat.div_lt_iff_lt_mul (by omega)).2 hc
 unfold triF
 dsimp only
 generalize k / 2 % W=p at *
 generalize k / 2 / W=q at *
 have n00:=nv_bd h (cx:=(p:Int)) (cy:=(q:Int)) (by omega) (by omega) (by omega) (by omega)
 have n10:=nv_bd h (cx:=(p:Int)+1) (cy:=(q:Int)) (by omega) (by omega) (by omega) (by omega)
 have n11:=nv_bd h (cx:=(p:Int)+1) (cy:=(q:Int)+1) (by omega) (by omega) (by omega) (by omega)
 have n01:=nv_bd h (cx:=(p:Int)) (cy:=(q:Int)+1) (by omega) (by omega) (by omega) (by omega)
 split
 ·exact ⟨n00.1,n00.2,n10.1,n10.2,n11.1,n11.2⟩
 ·exact ⟨n00.1,n00.2,n11.1,n11.2,n01.1,n01.2⟩
theorem sT_bd {W H:Nat} {v:Nat→Int} (h:OkV W H v):∀ k,k≤2*(H*W)→0≤sT W v k∧sT W v k≤300*k
 | 0,_=>by show (0:Int)≤0∧(0:Int)≤300*((0:Nat):Int);omega
 | k+1,hk=>by
  have h1:=sT_bd h k (by omega)
  have h2:=tSum_bd h (k:=k) (by omega)
  show 0≤sT W v k+tSum W v k∧sT W v k+tSum W v k≤300*((k+1:Nat):Int)
  unfold tSum
  omega
noncomputable def itE (W H:Int) (L:List Int):Option Int :=
 (loopM (fun (s:Int×Int)=>bif ltM s.1 H then (loopM
 (fun (s_1:Int×Int)=>bif ltM s_1.1 W then ((idxM L (wrap .i64 (wrap .i64 (s.1*wrap .i64 (W+1))+s_1.1))).bind fun r
 => some r).bind fun (ov:Int)=>((idxM L (wrap .i64 (wrap .i64 (s.1*wrap .i64 (W+1))+wrap .i64 (s_1.1+1)))).bind
 fun r=>some r).bind fun (ov_1:Int)=>((idxM L (wrap .i64 (wrap .i64 (wrap .i64 (s.1+1)*wrap .i64 (W+1))+wrap
 IntKind.i64 (s_1.1+1)))).bind fun r=>some r).bind fun (ov_2:Int)=>((idxM L (wrap .i64 (wrap .i64 (s.1*wrap .i64 (W+1)) +
 s_1.1))).bind fun r=>some r).bind fun (ov_3:Int)=>((idxM L (wrap .i64 (wrap .i64 (wrap .i64 (s.1+1)*wrap .i64 (W +
 1))+wrap .i64 (s_1.1+1)))).bind fun r=>some r).bind fun (ov_4:Int)=>((idxM L (wrap .i64 (wrap .i64 (wrap .i64 (s.1 +
 1)*wrap .i64 (W+1))+s_1.1))).bind fun r=>some r).bind fun (ov_5:Int)=>some (Sum.inl (wrap .i64 (s_1.1 +
 1),wrap .i64 (wrap .i64 (s_1.2+wrap .i64 (wrap .i64 (ov+ov_1)+ov_2))+wrap .i64 (wrap .i64 (ov_3+ov_4) +
 ov_5)))) else some (Sum.inr s_1.2)) (0,s.2)).bind fun o=>some (Sum.inl (wrap .i64 (s.1+1),o)) else some (Sum.inr s.2)) (0,0)).bind fun o=>some o
theorem itE_ok {W H:Nat} {v:Nat→Int} (h:OkV W H v):itE W H (row (nn W H) v)=some (sT W v (2*(H*W))):=by
 have w6:=h.w6
 have h6:=h.h6
 have hWH:H*W≤36:=Nat.mul_le_mul h6 w6
 unfold itE
 refine bind_of (x:=sT W v (2*(H*W))) ?_ rfl
 have e0:(0:Int)=sT W v (2*(0*W)):=by rw [Nat.zero_mul];rfl
 refine Eq.trans (congrArg (fun l=>loopM _ ((0:Int),l)) e0) (count_loop (fun cy=>sT W v (2*(cy*W))) H (fun cy hy=>?_) ?_)
 ·dsimp only
  rw [ltI (by omega),cond_true,wrap_in (n:=(cy:Int)+1) (by omega) (by omega)]
  refine bind_of (x:=sT W v (2*((cy+1)*W))) ?_ rfl
  refine count_loop (fun cx=>sT W v (2*(cy*W+cx))) W (fun cx hx=>?_) ?_
  ·have hb:cy*W+cx+1≤H*W:=by
    have:(cy+1)*W≤H*W:=Nat.mul_le_mul_right _ hy
    rw [Nat.add_mul,Nat.one_mul] at this
    omega
   have h1:=sT_bd h (2*(cy*W+cx)) (by omega)
   have n00:=nv_bd h (cx:=(cx:Int)) (cy:=(cy:Int)) (by omega) (by omega) (by omega) (by omega)
   have n10:=nv_bd h (cx:=(cx:Int)+1) (cy:=(cy:Int)) (by omega) (by omega) (by omega) (by omega)
   have n11:=nv_bd h (cx:=(cx:Int)+1) (cy:=(cy:Int)+1) (by omega) (by omega) (by omega) (by omega)
   have n01:=nv_bd h (cx:=(cx:Int)) (cy:=(cy:Int)+1) (by omega) (by omega) (by omega) (by omega)
   dsimp only
   rw [ltI (by omega),cond_true,wrap_in (n:=(cx:Int)+1) (by omega) (by omega),node_ok w6 h6 (cx:=(cx:Int)) (cy:=(cy:Int)) (by omega) (by omega) (by omega) (by omega),node_ok w6 h6 (cx:=(cx:Int)+1) (cy:=(cy:Int)) (by omega) (by omega) (by omega) (by omega),node_ok w6 h6 (cx:=(cx:Int)+1) (cy:=(cy:Int)+1) (by omega) (by omega) (by omega) (by omega),node_ok w6 h6 (cx:=(cx:Int)) (cy:=(cy:Int)+1) (by omega) (by omega) (by omega) (by omega)]
   simp only [Option.bind_some]
   have e:sT W v (2*(cy*W+(cx+1)))=sT W v (2*(cy*W+cx))+(nv W v cx cy+nv W v (cx+1) cy+nv W v (cx+1) (cy+1))+(nv W v cx cy+nv W v (cx+1) (cy+1)+nv W v cx (cy+1)):=by
    rw [show 2*(cy*W+(cx+1))=2*(cy*W+cx)+1+1 by omega]
    show sT W v (2*(cy*W+cx))+tSum W v (2*(cy*W+cx))+tSum W v (2*(cy*W+cx)+1)=_
    unfold tSum
    rw [triF_low v hx,triF_upp v hx];rfl
   rw [e,wrap_in (n:=nv W v cx cy+nv W v (cx+1) cy) (by omega) (by omega),wrap_in (n:=nv W v cx cy+nv W v (cx+1) cy+_) (by omega) (by omega),wrap_in (n:=nv W v cx cy+nv W v (cx+1) (cy+1)) (by omega) (by omega),wrap_in (n:=nv W v cx cy+nv W v (cx+1) (cy+1)+_) (by omega) (by omega),wrap_in (n:=sT W v _+_) (by omega) (by omega),wrap_in (by omega) (by omega)]
  ·dsimp only
   rw [geI (by omega),cond_false,Nat.add_mul,Nat.one_mul]
 ·dsimp only
  rw [geI (by omega),cond_false]
theorem integral_ok {W H:Nat} {lo hi:Nat→Int} (h:OkF W H lo hi):m14 (fd W H lo hi)=some (sT W lo (2*(H*W)),sT W hi (2*(H*W))):=by
 unfold m14
 have v1:=valid_ok h
 unfold fd at v1 ⊢
 dsimp only
 rw [v1,Option.bind_some,notT,cond_false]
 refine bind_of (itE_ok h.okLo) ?_
 refine bind_of (itE_ok h.okHi) rfl
end Go.Proofs.YtechphmljdgoaaaGreatDoor
namespace Go.Proofs.YtechphmljdgoaaaGreatDoor
theorem qmul_nonneg {a b:Rat} (ha:0≤a) (hb:0≤b):0≤a*b:=Rat.mul_nonneg ha hb
theorem qdiv_mul {n d:Rat} (hd:0<d):n / d*d=n:=Rat.div_mul_cancel (by grind)
theorem qdiv_le {n d m:Rat} (hd:0<d) (h:n≤m*d):n / d≤m:=by
 have e:=qdiv_mul (n:=n) hd
 refine Rat.not_lt.1 fun hl=>?_
 have:=Rat.mul_lt_mul_of_pos_right hl hd
 grind
theorem qle_div {n d m:Rat} (hd:0<d) (h:m*d≤n):m≤n / d:=by
 have e:=qdiv_mul (n:=n) hd
 refine Rat.not_lt.1 fun hl=>?_
 have:=Rat.mul_lt_mul_of_pos_right hl hd
 grind
theorem qdiv_div_le {n d n' d':Rat} (hd:0<d) (hd':0<d') (h:n*d'≤n'*d):n / d≤n' / d':=by
 refine qdiv_le hd ?_
 have e:=qdiv_mul (n:=n') hd'
 generalize n' / d'=u at *
 subst e
 refine Rat.not_lt.1 fun hl=>?_
 have:=Rat.mul_lt_mul_of_pos_right hl hd'
 grind
def ar (a b c:Rat):Rat:=if 0<a then 1 / 2 else if 0<b then 1 / 2-a*a / (2*((b-a)*(c-a))) else if 0<c then c*c / (2*((c-a)*(c-b))) else 0
theorem ar_1 {a b c:Rat} (h:0<a):ar a b c=1 / 2:=if_pos h
theorem ar_2 {a b c:Rat} (h:a≤0) (hb:0<b):ar a b c=1 / 2-a*a / (2*((b-a)*(c-a))):=by unfold ar;rw [if_neg (by grind),if_pos hb]
theorem ar_3 {a b c:Rat} (h:a≤0) (hb:b≤0) (hc:0<c):ar a b c=c*c / (2*((c-a)*(c-b))):=by unfold ar;rw [if_neg (by grind),if_neg (by grind),if_pos hc]
theorem ar_4 {a b c:Rat} (h:a≤0) (hb:b≤0) (hc:c≤0):ar a b c=0:=by unfold ar;rw [if_neg (by grind),if_neg (by grind),if_neg (by grind)]
theorem pos2 {x y:Rat} (hx:0<x) (hy:0<y):0<2*(x*y):=by have:=Rat.mul_pos hx hy;grind
theorem sub2_le {a b c:Rat} (h:a≤0) (hb:0<b) (hc:b≤c):a*a / (2*((b-a)*(c-a)))≤(-a) / (2*(c-a)):=by
 have h1:0<b-a:=by grind
 have h2:0<c-a:=by grind
 refine qdiv_div_le (pos2 h1 h2) (by grind) ?_
 have:=qmul_nonneg (qmul_nonneg (show 0≤-a by grind) (show 0≤b by grind)) (show 0≤c-a by grind)
 grind
theorem ar3_le {a b c:Rat} (h:a≤b) (hb:b≤0) (hc:0<c):c*c / (2*((c-a)*(c-b)))≤c / (2*(c-a)):=by
 have h1:0<c-b:=by grind
 have h2:0<c-a:=by grind
 refine qdiv_div_le (pos2 h2 h1) (by grind) ?_
 have:=qmul_nonneg (qmul_nonneg (show 0≤c by grind) (show 0≤-b by grind)) (show 0≤c-a by grind)
 grind
theorem mid_eq {a c:Rat} (h:0<c-a):(1:Rat) / 2-(-a) / (2*(c-a))=c / (2*(c-a)):=by
 have h1:(0:Rat)<2*(c-a):=by grind
 have e1:=qdiv_mul (n:=-a) h1
 have e2:=qdiv_mul (n:=c) h1
 have e3:(c / (2*(c-a))+-a / (2*(c-a))-1 / 2)*(2*(c-a))=0:=by grind
 have:=Rat.mul_eq_zero.1 e3
 grind
theorem mid_bd {a c:Rat} (ha:a≤0) (hc:0≤c) (h:0<c-a):0≤c / (2*(c-a))∧c / (2*(c-a))≤1 / 2 :=
 ⟨qle_div (by grind) (by grind),qdiv_le (by grind) (by grind)⟩
theorem sq_nn (a:Rat):0≤a*a:=by
 by_cases h:0≤a
 ·exact qmul_nonneg h h
 ·have:=qmul_nonneg (show 0≤-a by grind) (show 0≤-a by grind)
  grind
theorem ar_bd {a b c:Rat} (h1:a≤b) (h2:b≤c):0≤ar a b c∧ar a b c≤1 / 2:=by
 by_cases ha:0<a
 ·rw [ar_1 ha];grind
 by_cases hb:0<b
 ·rw [ar_2 (by grind) hb]
  have:=sub2_le (a:=a) (b:=b) (c:=c) (by grind) hb h2
  have e:=mid_eq (a:=a) (c:=c) (by grind)
  have m:=mid_bd (a:=a) (c:=c) (by grind) (by grind) (by grind)
  have:0≤a*a / (2*((b-a)*(c-a))):=qle_div (pos2 (by grind) (by grind)) (by have:=sq_nn a;grind)
  grind
 by_cases hc:0<c
 ·rw [ar_3 (by grind) (by grind) hc]
  have:=ar3_le (a:=a) (b:=b) (c:=c) h1 (by grind) hc
  have m:=mid_bd (a:=a) (c:=c) (by grind) (by grind) (by grind)
  have:0≤c*c / (2*((c-a)*(c-b))):=qle_div (pos2 (by grind) (by grind)) (by have:=sq_nn c;grind)
  grind
 ·rw [ar_4 (by grind) (by grind) (by grind)];grind
theorem qmul_le {a b c d:Rat} (h1:a≤b) (h2:c≤d) (ha:0≤b) (hc:0≤c):a*c≤b*d:=by
 have e1:=Rat.mul_le_mul_of_nonneg_right h1 hc
 have e2:=Rat.mul_le_mul_of_nonneg_left h2 ha
 grind
theorem ar_c {a b c d:Rat} (h1:a≤b) (h2:b≤c) (h3:c≤d):ar a b c≤ar a b d:=by
 by_cases ha:0<a
 ·rw [ar_1 ha,ar_1 ha];grind
 by_cases hb:0<b
 ·rw [ar_2 (by grind) hb,ar_2 (by grind) hb]
  have:a*a / (2*((b-a)*(d-a)))≤a*a / (2*((b-a)*(c-a))):=by
   refine qdiv_div_le (pos2 (by grind) (by grind)) (pos2 (by grind) (by grind)) ?_
   have:=qmul_nonneg (qmul_nonneg (sq_nn a) (show 0≤b-a by grind)) (show 0≤d-c by grind)
   grind
  grind
 by_cases hc:0<c
 ·rw [ar_3 (by grind) (by grind) hc,ar_3 (by grind) (by grind) (by grind)]
  refine qdiv_div_le (pos2 (by grind) (by grind)) (pos2 (by grind) (by grind)) ?_
  have x1:c*(d-a)≤d*(c-a):=by have:=qmul_nonneg (show 0≤-a by grind) (show 0≤d-c by grind);grind
  have x2:c*(d-b)≤d*(c-b):=by have:=qmul_nonneg (show 0≤-b by grind) (show 0≤d-c by grind);grind
  have:=qmul_le x1 x2 (qmul_nonneg (by grind) (by grind)) (qmul_nonneg (by grind) (by grind))
  grind
 ·rw [ar_4 (by grind) (by grind) (by grind)];exact (ar_bd h1 (by grind)).1
theorem ar_b {a b c d:Rat} (h1:a≤b) (h2:b≤d) (h3:d≤c):ar a b c≤ar a d c:=by
 by_cases ha:0<a
 ·rw [ar_1 ha,ar_1 ha];grind
 by_cases hb:0<b
 ·rw [ar_2 (by grind) hb,ar_2 (by grind) (by grind)]
  have:a*a / (2*((d-a)*(c-a)))≤a*a / (2*((b-a)*(c-a))):=by
   refine qdiv_div_le (pos2 (by grind) (by grind)) (pos2 (by grind) (by grind)) ?_
   have:=qmul_nonneg (qmul_nonneg (sq_nn a) (show 0≤c-a by grind)) (show 0≤d-b by grind)
   grind
  grind
 by_cases hc:0<c
 ·by_cases hd:0<d
  ·rw [ar_3 (by grind) (by grind) hc,ar_2 (by grind) hd]
   have x1:=ar3_le (a:=a) (b:=b) (c:=c) h1 (by grind) hc
   have x2:=sub2_le (a:=a) (b:=d) (c:=c) (by grind) hd h3
   have e:=mid_eq (a:=a) (c:=c) (by grind)
   grind
  ·rw [ar_3 (by grind) (by grind) hc,ar_3 (by grind) (by grind) hc]
   refine qdiv_div_le (pos2 (by grind) (by grind)) (pos2 (by grind) (by grind)) ?_
   have:=qmul_nonneg (qmul_nonneg (sq_nn c) (show 0≤c-a by grind)) (show 0≤d-b by grind)
   grind
 ·rw [ar_4 (by grind) (by grind) (by grind)];exact (ar_bd (by grind) h3).1
theorem ar_a {a b c d:Rat} (h1:a≤d) (h2:d≤b) (h3:b≤c):ar a b c≤ar d b c:=by
 by_cases hd:0<d
 ·rw [ar_1 hd];exact (ar_bd (by grind) h3).2
 by_cases hb:0<b
 ·rw [ar_2 (by grind) hb,ar_2 (by grind) hb]
  have:d*d / (2*((b-d)*(c-d)))≤a*a / (2*((b-a)*(c-a))):=by
   refine qdiv_div_le (pos2 (by grind) (by grind)) (pos2 (by grind) (by grind)) ?_
   have x1:(-d)*(b-a)≤(-a)*(b-d):=by have:=qmul_nonneg (show 0≤b by grind) (show 0≤d-a by grind);grind
   have x2:(-d)*(c-a)≤(-a)*(c-d):=by have:=qmul_nonneg (show 0≤c by grind) (show 0≤d-a by grind);grind
   have:=qmul_le x1 x2 (qmul_nonneg (by grind) (by grind)) (qmul_nonneg (by grind) (by grind))
   grind
  grind
 by_cases hc:0<c
 ·rw [ar_3 (by grind) (by grind) hc,ar_3 (by grind) (by grind) hc]
  refine qdiv_div_le (pos2 (by grind) (by grind)) (pos2 (by grind) (by grind)) ?_
  have:=qmul_nonneg (qmul_nonneg (sq_nn c) (show 0≤c-b by grind)) (show 0≤d-a by grind)
  grind
 ·rw [ar_4 (by grind) (by grind) (by grind)];exact (ar_bd h2 h3).1
theorem ar_mono {a b c a' b' c':Rat} (h1:a≤b) (h2:b≤c) (h3:a'≤b') (h4:b'≤c') (x:a≤a') (y:b≤b') (z:c≤c'):ar a b c≤ar a' b' c':=by
 have e1:=ar_c h1 h2 z
 have e2:=ar_b h1 y h4
 have e3:=ar_a x h3 h4
 grind
end Go.Proofs.YtechphmljdgoaaaGreatDoor
namespace Go.Proofs.YtechphmljdgoaaaGreatDoor
def Dn (D B:Nat) (q:Rat):Prop:=∃ z:Int,q*(D:Rat)=(z:Rat)∧z.natAbs≤B*D
theorem mul_den (q:Rat):q*(q.den:Rat)=(q.num:Rat):=by
 have h:((q.den:Int):Rat)≠0:=fun e=>q.den_nz (by have:=Rat.intCast_inj.1 (show ((q.den:Int):Rat)=((0:Int):Rat) from e);omega)
 have e:q=(q.num:Rat) / ((q.den:Int):Rat):=by rw [← Rat.divInt_eq_div];exact (Rat.num_divInt_den q).symm
 have:=Rat.div_mul_cancel (a:=(q.num:Rat)) h
 rw [← e,Rat.intCast_natCast] at this
 exact this
theorem Dn.num_den {D B:Nat} {q:Rat} (hD:0<D) (h:Dn D B q):q.den≤D∧q.num.natAbs≤B*D:=by
 obtain ⟨z,e,hz⟩:=h
 have hd:=q.den_pos
 have e1:q*(q.den:Rat)=(q.num:Rat):=mul_den q
 have e2:q.num*(D:Int)=z*(q.den:Int):=by
  have:((q.num*(D:Int):Int):Rat)=((z*(q.den:Int):Int):Rat):=by
   rw [Rat.intCast_mul,Rat.intCast_mul,← e,← e1,Rat.intCast_natCast,Rat.intCast_natCast]
   grind
  exact Rat.intCast_inj.1 this
 have e3:q.num.natAbs*D=z.natAbs*q.den:=by
  have:=congrArg Int.natAbs e2
  rwa [Int.natAbs_mul,Int.natAbs_mul,Int.natAbs_natCast,Int.natAbs_natCast] at this
 have hdv:q.den ∣ D:=by
  have h1:q.den ∣ q.num.natAbs*D:=⟨z.natAbs,by rw [e3,Nat.mul_comm]⟩
  exact (Nat.Coprime.symm q.reduced).dvd_of_dvd_mul_left h1
 have hle:=Nat.le_of_dvd hD hdv
 refine ⟨hle,?_⟩
 have h1:q.num.natAbs*D≤B*q.den*D:=by
  rw [e3]
  have:=Nat.mul_le_mul_right q.den hz
  rw [Nat.mul_right_comm] at this
  exact this
 have h2:=Nat.le_of_mul_le_mul_right h1 hD
 exact Nat.le_trans h2 (Nat.mul_le_mul_left B hle)
theorem Dn.add {D B C:Nat} {p q:Rat} (hp:Dn D B p) (hq:Dn D C q):Dn D (B+C) (p+q):=by
 obtain ⟨z,e,hz⟩:=hp
 obtain ⟨w,f,hw⟩:=hq
 refine ⟨z+w,?_,?_⟩
 ·rw [Rat.intCast_add,← e,← f];grind
 ·rw [Nat.add_mul];omega
theorem Dn.mono {D B C:Nat} {q:Rat} (h:Dn D B q) (hB:B≤C):Dn D C q:=by
 obtain ⟨z,e,hz⟩:=h
 exact ⟨z,e,Nat.le_trans hz (Nat.mul_le_mul_right D hB)⟩
theorem Dn.zero {D:Nat}:Dn D 0 0:=⟨0,by rw [Rat.zero_mul];rfl,by omega⟩
theorem divInt_eq (n d:Int):Rat.divInt n d=(n:Rat) / (d:Rat):=by exact Rat.divInt_eq_div n d
theorem Dn.of {D B:Nat} {n d:Int} (h0:d≠0) (hd:d ∣ (D:Int)) (hn:n.natAbs≤B*d.natAbs):Dn D B (Rat.divInt n d):=by
 obtain ⟨k,hk⟩:=hd
 have hd0:(d:Rat)≠0:=fun e=>h0 (Rat.intCast_inj.1 (by simpa using e))
 refine ⟨n*k,?_,?_⟩
 ·rw [divInt_eq,← Rat.intCast_natCast,hk,Rat.intCast_mul,Rat.intCast_mul,← Rat.mul_assoc,Rat.div_mul_cancel hd0]
 ·have e:D=d.natAbs*k.natAbs:=by have:=congrArg Int.natAbs hk;rwa [Int.natAbs_mul,Int.natAbs_natCast] at this
  rw [e,Int.natAbs_mul,← Nat.mul_assoc]
  exact Nat.mul_le_mul_right _ hn
end Go.Proofs.YtechphmljdgoaaaGreatDoor
namespace Go.Proofs.YtechphmljdgoaaaGreatDoor
def trn (a b c:Int×Int):Int:=(b.1-a.1)*(c.2-a.2)-(b.2-a.2)*(c.1-a.1)
def farD (a b:Int×Int):Int:=(a.1-b.1)*(a.1-b.1)+(a.2-b.2)*(a.2-b.2)
def evP (G:Int×Int×Int) (p:Int×Int):Int:=G.1*p.1+G.2.1*p.2+G.2.2
def ExtP (S:List (Int×Int)) (a:Int×Int):Prop:=∃ G,evP G a=0∧∀ p∈S,p≠a→0<evP G p
def Suc (S:List (Int×Int)) (a c:Int×Int):Prop:=c∈S∧c≠a∧∀ p∈S,p≠a→0<trn a c p∨(trn a c p=0∧farD a p≤farD a c)
theorem ev_prop {G:Int×Int×Int} {a c p:Int×Int} (h0:evP G a=0) (h:trn a c p=0):evP G c*(p.1-a.1)=evP G p*(c.1-a.1)∧evP G c*(p.2-a.2)=evP G p*(c.2-a.2):=by
 unfold evP trn at *
 constructor<;>grind
theorem plu {G:Int×Int×Int} {a w u v:Int×Int} (h0:evP G a=0):evP G w*trn a u v=evP G u*trn a w v-evP G v*trn a w u:=by
 unfold evP trn at *
 grind
theorem sq0 (x:Int):0≤x*x:=by
 rcases Int.le_total 0 x with h | h
 ·exact Int.mul_nonneg h h
 ·have:=Int.mul_nonneg (show 0≤-x by omega) (show 0≤-x by omega);rwa [Int.neg_mul_neg] at this
theorem farD_pos {a c:Int×Int} (h:c≠a):0<farD a c:=by
 unfold farD
 have h1:∀ x:Int,0≤x*x:=fun x=>sq0 x
 have h2:∀ x:Int,x≠0→0<x*x:=fun x hx=>by
  have:=h1 x
  have:x*x≠0:=Int.mul_ne_zero hx hx
  omega
 by_cases e:a.1-c.1=0
 ·have e2:a.2-c.2≠0:=fun e2=>h (Prod.ext (by omega) (by omega))
  have:=h2 _ e2
  have:=h1 (a.1-c.1)
  omega
 ·have:=h2 _ e
  have:=h1 (a.2-c.2)
  omega
theorem seg {G:Int×Int×Int} {a c p:Int×Int} (h0:evP G a=0) (hc:0<evP G c) (hp:0<evP G p) (hca:c≠a) (h:trn a c p=0) (hf:farD a p≤farD a c):evP G p≤evP G c∧(evP G p=evP G c→p=c):=by
 obtain ⟨e1,e2⟩:=ev_prop h0 h
 have hpos:=farD_pos hca
 have key:evP G c*evP G c*farD a p=evP G p*evP G p*farD a c:=by unfold farD;grind
 generalize hgc:evP G c=x at *
 generalize hgp:evP G p=y at *
 constructor
 ·refine Int.not_lt.1 fun hl=>?_
  have k1:x*x<y*y:=by
   have:=Int.mul_lt_mul_of_pos_left hl hc
   have:=Int.mul_lt_mul_of_pos_right hl hp
   omega
  have k2:=Int.mul_lt_mul_of_pos_right k1 hpos
  have k3:=Int.mul_le_mul_of_nonneg_left hf (sq0 x)
  omega
 ·intro e
  subst e
  have f1:=Int.eq_of_mul_eq_mul_left (by omega) e1
  have f2:=Int.eq_of_mul_eq_mul_left (by omega) e2
  exact Prod.ext (by omega) (by omega)
theorem no_mid {S:List (Int×Int)} {a c b:Int×Int} (ha:ExtP S a) (haS:a∈S) (hs:Suc S a c) (hb:ExtP S b) (hbS:b∈S) (h:trn a c b=0) (h1:b≠a) (h2:b≠c):False:=by
 obtain ⟨G,g0,g1⟩:=ha
 obtain ⟨K,k0,k1⟩:=hb
 obtain ⟨cS,ca,hall⟩:=hs
 have hf:farD a b≤farD a c:=by
  rcases hall b hbS h1 with x | x
  ·omega
  ·exact x.2
 obtain ⟨m1,m2⟩:=seg g0 (g1 c cS ca) (g1 b hbS h1) ca h hf
 have m3:evP G b<evP G c:=by
  have:evP G b≠evP G c:=fun e=>h2 (m2 e)
  omega
 obtain ⟨e1,e2⟩:=ev_prop (G:=G) g0 h
 have p1:=k1 a haS (fun e=>h1 e.symm)
 have p2:=k1 c cS (fun e=>h2 e.symm)
 have q:=g1 b hbS h1
 have key:(evP G c-evP G b)*evP K a+evP G b*evP K c=evP G c*evP K b:=by
  generalize evP G c=x at *
  generalize evP G b=y at *
  have t:x*(evP K b-evP K a)=y*(evP K c-evP K a):=by unfold evP;grind
  grind
 rw [k0,Int.mul_zero] at key
 have:=Int.mul_pos (show 0<evP G c-evP G b by omega) p1
 have:=Int.mul_pos q p2
 omega
theorem big {α:Type} (S:List α) (f:α→Int):∃ M:Int,0≤M∧∀ p∈S,f p<M:=by
 induction S with
 | nil=>exact ⟨0,by omega,fun p hp=>by cases hp⟩
 | cons x l ih =>
  obtain ⟨M,h0,h⟩:=ih
  refine ⟨max M (f x+1),by omega,fun p hp=>?_⟩
  rcases List.mem_cons.1 hp with rfl | hp
  ·omega
  ·have:=h p hp;omega
theorem ext_suc {S:List (Int×Int)} {a c:Int×Int} (ha:ExtP S a) (haS:a∈S) (hs:Suc S a c):ExtP S c:=by
 obtain ⟨G,g0,g1⟩:=ha
 obtain ⟨cS,ca,hall⟩:=hs
 obtain ⟨M,hM0,hM⟩:=big S (fun p=>evP G p-evP G c)
 refine ⟨(M*(-(c.2-a.2))-G.1,M*(c.1-a.1)-G.2.1,M*((c.2-a.2)*a.1-(c.1-a.1)*a.2)+evP G c-G.2.2),?_,fun p hp hpc=>?_⟩
 ·unfold evP;grind
 ·have e:evP (M*(-(c.2-a.2))-G.1,M*(c.1-a.1)-G.2.1,M*((c.2-a.2)*a.1-(c.1-a.1)*a.2)+evP G c-G.2.2) p=M*trn a c p+evP G c-evP G p:=by unfold evP trn;grind
  rw [e]
  have hMp:=hM p hp
  have hgc:=g1 c cS ca
  by_cases hpa:p=a
  ·subst hpa
   have:trn p c p=0:=by unfold trn;grind
   rw [this,g0];omega
  ·rcases hall p hp hpa with x | ⟨x,y⟩
   ·have:=Int.mul_le_mul_of_nonneg_left (show 1≤trn a c p by omega) hM0
    omega
   ·obtain ⟨m1,m2⟩:=seg g0 hgc (g1 p hp hpa) ca x y
    have:evP G p≠evP G c:=fun e=>hpc (m2 e)
    rw [x,Int.mul_zero];omega
theorem suc_inj {S:List (Int×Int)} {a b c:Int×Int} (ha:ExtP S a) (haS:a∈S) (hb:ExtP S b) (hbS:b∈S) (h1:Suc S a c) (h2:Suc S b c):a=b:=by
 refine Decidable.byContradiction fun hab=>?_
 have t1:0≤trn a c b:=by rcases h1.2.2 b hbS (fun e=>hab e.symm) with x | x<;>omega
 have t2:0≤trn b c a:=by rcases h2.2.2 a haS hab with x | x<;>omega
 have e:trn b c a=- trn a c b:=by unfold trn;grind
 exact no_mid ha haS h1 hb hbS (by omega) (fun e=>hab e.symm) (fun e=>h2.2.1 e.symm)
def nxS (a n p:Int×Int):Int×Int:=if p=a then n else if n=a∨trn a n p<0∨(trn a n p=0∧farD a n<farD a p) then p else n
def nxF (a:Int×Int) (l:List (Int×Int)):Int×Int:=l.foldl (nxS a) a
def NxtP (a:Int×Int) (l:List (Int×Int)) (n:Int×Int):Prop:=(n=a∧∀ p∈l,p=a)∨(n∈l∧n≠a∧∀ p∈l,p≠a→0<trn a n p∨(trn a n p=0∧farD a p≤farD a n))
theorem nxS_ok {S:List (Int×Int)} {a n x:Int×Int} (ha:ExtP S a) (l:List (Int×Int)) (hl:∀ p∈l,p∈S) (hx:x∈S) (ih:NxtP a l n):NxtP a (l++[x]) (nxS a n x):=by
 obtain ⟨G,g0,g1⟩:=ha
 unfold NxtP nxS at *
 by_cases hxa:x=a
 ·rw [if_pos hxa]
  rcases ih with ⟨i1,i2⟩ | ⟨i1,i2,i3⟩
  ·refine .inl ⟨i1,fun p hp=>?_⟩
   rcases List.mem_append.1 hp with h | h
   ·exact i2 p h
   ·rw [List.mem_singleton.1 h];exact hxa
  ·refine .inr ⟨by simp [i1],i2,fun p hp hpa=>?_⟩
   rcases List.mem_append.1 hp with h | h
   ·exact i3 p h hpa
   ·exact absurd ((List.mem_singleton.1 h).trans hxa) hpa
 ·rw [if_neg hxa]
  have self:trn a x x=0:=by unfold trn;grind
  rcases ih with ⟨i1,i2⟩ | ⟨i1,i2,i3⟩
  ·rw [if_pos (.inl i1)]
   refine .inr ⟨by simp,hxa,fun p hp hpa=>?_⟩
   rcases List.mem_append.1 hp with h | h
   ·exact absurd (i2 p h) hpa
   ·rw [List.mem_singleton.1 h];exact .inr ⟨self,Int.le_refl _⟩
  ·have gn:=g1 n (hl n (by simp [i1])) i2
   have gx:=g1 x hx hxa
   by_cases hc:n=a∨trn a n x<0∨(trn a n x=0∧farD a n<farD a x)
   ·rw [if_pos hc]
    refine .inr ⟨by simp,hxa,fun p hp hpa=>?_⟩
    rcases List.mem_append.1 hp with h | h
    ·have gp:=g1 p (hl p (by simp [h])) hpa
     have pl:=plu (G:=G) (w:=n) (u:=x) (v:=p) g0
     rcases hc with hc | hc | ⟨hc,hd⟩
     ·exact absurd hc i2
     ·left
      have q1:0≤evP G x*trn a n p:=Int.mul_nonneg (by omega) (by rcases i3 p h hpa with y | y<;>omega)
      have q2:evP G p*trn a n x<0:=Int.mul_neg_of_pos_of_neg gp hc
      exact Int.pos_of_mul_pos_right (a:=evP G n) (by rw [pl];omega) gn
     ·rw [hc,Int.mul_zero,Int.sub_zero] at pl
      rcases i3 p h hpa with y | ⟨y,z⟩
      ·left
       exact Int.pos_of_mul_pos_right (a:=evP G n) (by rw [pl];exact Int.mul_pos gx y) gn
      ·right
       rw [y,Int.mul_zero] at pl
       rcases Int.mul_eq_zero.1 pl with e | e
       ·omega
       ·exact ⟨e,by omega⟩
    ·rw [List.mem_singleton.1 h];exact .inr ⟨self,Int.le_refl _⟩
   ·rw [if_neg hc]
    refine .inr ⟨by simp [i1],i2,fun p hp hpa=>?_⟩
    rcases List.mem_append.1 hp with h | h
    ·exact i3 p h hpa
    ·rw [List.mem_singleton.1 h];omega
theorem nxF_inv {S:List (Int×Int)} {a:Int×Int} (ha:ExtP S a):∀ (l pre:List (Int×Int)) (n:Int×Int),(∀ p∈pre++l,p∈S)→NxtP a pre n→NxtP a (pre++l) (l.foldl (nxS a) n)
 | [],pre,n,h,hn=>by rw [List.append_nil];exact hn
 | x::l,pre,n,h,hn=>by
  have e:pre++x::l=(pre++[x])++l:=by simp
  rw [e,List.foldl_cons]
  refine nxF_inv ha l (pre++[x]) _ (fun p hp=>h p (by rw [e];exact hp)) (nxS_ok ha pre (fun p hp=>h p (by simp [hp])) (h x (by simp)) hn)
theorem ext_low {S:List (Int×Int)} {f:Int×Int} (h:∀ p∈S,f.2<p.2∨(f.2=p.2∧f.1≤p.1)):ExtP S f:=by
 obtain ⟨M,hM0,hM⟩:=big S (fun p=>f.1-p.1)
 refine ⟨(1,M,-(f.1+M*f.2)),by unfold evP;grind,fun p hp hpf=>?_⟩
 have e:evP (1,M,-(f.1+M*f.2)) p=(p.1-f.1)+M*(p.2-f.2):=by unfold evP;grind
 rw [e]
 have:=hM p hp
 rcases h p hp with x | ⟨x,y⟩
 ·have:=Int.mul_le_mul_of_nonneg_left (show 1≤p.2-f.2 by omega) hM0
  omega
 ·have:p.1≠f.1:=fun e=>hpf (Prod.ext e x.symm)
  rw [show p.2-f.2=0 by omega];omega
structure Chn (S l:List (Int×Int)):Prop where
 pos:0<l.length
 nd:l.Nodup
 mem:∀ i,i<l.length→l.getD i (0,0)∈S∧ExtP S (l.getD i (0,0))
 suc:∀ i,i+1<l.length→Suc S (l.getD i (0,0)) (l.getD (i+1) (0,0))
theorem getD_eq {l:List (Int×Int)} {i:Nat} (h:i<l.length):l.getD i (0,0)=l[i]:=by simp [List.getD,h]
theorem nd_getD {l:List (Int×Int)} (h:l.Nodup) {i j:Nat} (hi:i<l.length) (hj:j<l.length) (e:l.getD i (0,0)=l.getD j (0,0)):i=j:=by
 rw [getD_eq hi,getD_eq hj] at e
 exact (List.getElem_inj h).1 e
theorem mem_getD {l:List (Int×Int)} {x:Int×Int} (h:x∈l):∃ j,j<l.length∧x=l.getD j (0,0):=by
 obtain ⟨j,hj,e⟩:=List.getElem_of_mem h
 exact ⟨j,hj,by rw [getD_eq hj,e]⟩
theorem Chn.one {S:List (Int×Int)} {f:Int×Int} (hf:f∈S) (h:ExtP S f):Chn S [f]:=by
 refine ⟨Nat.zero_lt_one,by simp,fun i hi=>?_,fun i hi=>by simp at hi⟩
 rw [show i=0 by simpa using hi]
 exact ⟨hf,h⟩
theorem getD_app {l:List (Int×Int)} {c:Int×Int} (i:Nat) (h:i<l.length):(l++[c]).getD i (0,0)=l.getD i (0,0):=by
 rw [getD_eq (by simp;omega),getD_eq h,List.getElem_append_left h]
theorem getD_last {l:List (Int×Int)} {c:Int×Int}:(l++[c]).getD l.length (0,0)=c:=by
 rw [getD_eq (by simp)];simp
theorem Chn.app {S l:List (Int×Int)} {c:Int×Int} (h:Chn S l) (hs:Suc S (l.getD (l.length-1) (0,0)) c) (hc:c≠l.getD 0 (0,0)):Chn S (l++[c]):=by
 have hp:=h.pos
 have hm:=h.mem (l.length-1) (by omega)
 have hnot:c∉l:=fun hcl=>by
  obtain ⟨j,hj,e⟩:=mem_getD hcl
  match j with
  | 0=>exact hc e
  | j+1 =>
   have h1:=h.suc j hj
   rw [← e] at h1
   have hmj:=h.mem j (by omega)
   have:=nd_getD h.nd (by omega) (by omega) (suc_inj hmj.2 hmj.1 hm.2 hm.1 h1 hs)
   omega
 refine ⟨by simp,?_,fun i hi=>?_,fun i hi=>?_⟩
 ·rw [List.nodup_append]
  refine ⟨h.nd,by simp,fun a ha b hb e=>?_⟩
  rw [List.mem_singleton.1 hb] at e
  exact hnot (e▸ha)
 ·rw [List.length_append,List.length_singleton] at hi
  by_cases e:i<l.length
  ·rw [getD_app i e];exact h.mem i e
  ·rw [show i=l.length by omega,getD_last];exact ⟨hs.1,ext_suc hm.2 hm.1 hs⟩
 ·rw [List.length_append,List.length_singleton] at hi
  rw [getD_app i (by omega)]
  by_cases e:i+1<l.length
  ·rw [getD_app _ e];exact h.suc i e
  ·rw [show i+1=l.length by omega,getD_last,show i=l.length-1 by omega];exact hs
theorem Chn.len {S l:List (Int×Int)} (h:Chn S l):l.length≤S.length :=
 List.Nodup.length_le_of_subset h.nd (fun x hx=>by obtain ⟨j,hj,e⟩:=mem_getD hx;rw [e];exact (h.mem j hj).1)
def Cvx (l:List (Int×Int)):Prop:=∀ i k,i<l.length→k<l.length→k≠i→k≠(i+1) % l.length→0<trn (l.getD i (0,0)) (l.getD ((i+1) % l.length) (0,0)) (l.getD k (0,0))
theorem Chn.cvx {S l:List (Int×Int)} (h:Chn S l) (hc:Suc S (l.getD (l.length-1) (0,0)) (l.getD 0 (0,0))):Cvx l:=by
 intro i k hi hk h1 h2
 have hmi:=h.mem i hi
 have hmk:=h.mem k hk
 have hl:(i+1) % l.length<l.length:=Nat.mod_lt _ (by omega)
 have hs:Suc S (l.getD i (0,0)) (l.getD ((i+1) % l.length) (0,0)):=by
  by_cases e:i+1<l.length
  ·rw [Nat.mod_eq_of_lt e];exact h.suc i e
  ·rw [show i+1=l.length by omega,Nat.mod_self,show i=l.length-1 by omega];exact hc
 have n1:l.getD k (0,0)≠l.getD i (0,0):=fun e=>h1 (nd_getD h.nd hk hi e)
 have n2:l.getD k (0,0)≠l.getD ((i+1) % l.length) (0,0):=fun e=>h2 (nd_getD h.nd hk hl e)
 rcases hs.2.2 _ hmk.1 n1 with x | x
 ·exact x
 ·exact (no_mid hmi.2 hmi.1 hs hmk.2 hmk.1 x.1 n1 n2).elim
end Go.Proofs.YtechphmljdgoaaaGreatDoor
namespace Go.Proofs.YtechphmljdgoaaaGreatDoor
abbrev Spt:=Int×Int×Int
def lev (L:Spt) (s:Spt):Int:=L.1*s.1+L.2.1*s.2.1+L.2.2*s.2.2
structure Mix (s t c:Spt):Prop where
 ex:∃ k p q:Int,0<k∧0<p∧0<q∧k*c.1=p*s.1+q*t.1∧k*c.2.1=p*s.2.1+q*t.2.1∧k*c.2.2=p*s.2.2+q*t.2.2
 red:Int.gcd (Int.gcd c.1 c.2.1) c.2.2=1
theorem Mix.at {s t c:Spt} (h:Mix s t c) (F:Spt):∃ k p q:Int,0<k∧0<p∧0<q∧k*lev F c=p*lev F s+q*lev F t:=by
 obtain ⟨k,p,q,hk,hp,hq,e1,e2,e3⟩:=h.ex
 refine ⟨k,p,q,hk,hp,hq,?_⟩
 unfold lev
 grind
theorem Mix.nn {s t c:Spt} (h:Mix s t c) (F:Spt) (h1:0≤lev F s) (h2:0≤lev F t):0≤lev F c:=by
 obtain ⟨k,p,q,hk,hp,hq,e⟩:=h.at F
 have a:=Int.mul_nonneg (show 0≤p by omega) h1
 have b:=Int.mul_nonneg (show 0≤q by omega) h2
 exact Int.nonneg_of_mul_nonneg_right (a:=k) (by rw [e];omega) hk
theorem Mix.zero {s t c:Spt} (h:Mix s t c) (F:Spt) (h1:lev F s=0) (h2:lev F t=0):lev F c=0:=by
 obtain ⟨k,p,q,hk,hp,hq,e⟩:=h.at F
 rw [h1,h2,Int.mul_zero,Int.mul_zero] at e
 rcases Int.mul_eq_zero.1 (e.trans rfl) with x | x
 ·omega
 ·exact x
def Eg (s t:Spt):Prop:=∃ e:Spt,e.1.natAbs≤6∧e.2.1.natAbs≤6∧¬ (e.1=0∧e.2.1=0)∧lev e s=0∧lev e t=0
theorem dvd_det {x y d m:Int} (hr:Int.gcd (Int.gcd x y) d=1) (h1:d ∣ m*x) (h2:d ∣ m*y):d ∣ m:=by
 have h3:d ∣ m*(Int.gcd x y:Int):=by
  have:=Int.dvd_coe_gcd h1 h2
  rw [Int.gcd_mul_left,Int.natCast_mul] at this
  have h4:d ∣ (m.natAbs:Int)*(Int.gcd x y:Int):=this
  rcases Int.natAbs_eq m with e | e
  ·rw [e];exact h4
  ·rw [e,Int.neg_mul];exact Int.dvd_neg.2 h4
 have h5:=Int.dvd_coe_gcd h3 (Int.dvd_mul_left m d)
 rw [Int.gcd_mul_left,hr,Nat.mul_one] at h5
 exact Int.dvd_natAbs.1 h5
theorem small_d {s c e L:Spt} (h1:e.1.natAbs≤6) (h2:e.2.1.natAbs≤6) (h0:¬ (e.1=0∧e.2.1=0)) (l1:L.1.natAbs≤1) (l2:L.2.1.natAbs≤1) (es:lev e s=0) (ec:lev e c=0) (Lc:lev L c=0) (Ls:lev L s≠0) (hd:0<c.2.2)
  (hr:Int.gcd (Int.gcd c.1 c.2.1) c.2.2=1):c.2.2≤12:=by
 obtain ⟨a,b,g⟩:=e
 obtain ⟨a',b',g'⟩:=L
 obtain ⟨x,y,d⟩:=c
 obtain ⟨sx,sy,sd⟩:=s
 unfold lev at *
 dsimp only at *
 have k1:(a*b'-a'*b)*x=d*(b*g'-b'*g):=by grind
 have k2:(a*b'-a'*b)*y=d*(g*a'-g'*a):=by grind
 have hdv:d ∣ a*b'-a'*b:=dvd_det hr ⟨_,k1⟩ ⟨_,k2⟩
 have hm1:(a*b').natAbs≤6:=by rw [Int.natAbs_mul];exact Nat.le_trans (Nat.mul_le_mul h1 l2) (by omega)
 have hm2:(a'*b).natAbs≤6:=by rw [Int.natAbs_mul];exact Nat.le_trans (Nat.mul_le_mul l1 h2) (by omega)
 by_cases hz:a*b'-a'*b=0
 ·exfalso
  rw [hz,Int.zero_mul] at k1 k2
  have z1:b*g'-b'*g=0:=by rcases Int.mul_eq_zero.1 k1.symm with q | q<;>omega
  have z2:g*a'-g'*a=0:=by rcases Int.mul_eq_zero.1 k2.symm with q | q<;>omega
  have m1:a*(a'*sx+b'*sy+g'*sd)=0:=by grind
  have m2:b*(a'*sx+b'*sy+g'*sd)=0:=by grind
  refine h0 ⟨?_,?_⟩
  ·rcases Int.mul_eq_zero.1 m1 with q | q
   ·exact q
   ·exact absurd q Ls
  ·rcases Int.mul_eq_zero.1 m2 with q | q
   ·exact q
   ·exact absurd q Ls
 ·have:=Int.le_of_dvd (show 0<((a*b'-a'*b).natAbs:Int) by omega) (Int.dvd_natAbs.2 hdv)
  omega
def adS (l:List Spt) (s:Spt):List Spt:=if l.getLast? = some s then l else l++[s]
def redS (s:Spt):Spt:=let k:Int:=if s.2.2<0 then -(Int.gcd (Int.gcd s.1 s.2.1) s.2.2:Int) else Int.gcd (Int.gcd s.1 s.2.1) s.2.2;(s.1 / k,s.2.1 / k,s.2.2 / k)
def crS (h t:Int) (s n:Spt):Spt:=redS (s.1*t-n.1*h,s.2.1*t-n.2.1*h,s.2.2*t-n.2.2*h)
theorem redS_ok {s:Spt} (h:s.2.2≠0):∃ k:Int,(0<k↔0<s.2.2)∧k≠0∧k*(redS s).1=s.1∧k*(redS s).2.1=s.2.1∧k*(redS s).2.2=s.2.2∧Int.gcd (Int.gcd (redS s).1 (redS s).2.1) (redS s).2.2=1:=by
 have hg:Int.gcd (Int.gcd s.1 s.2.1) s.2.2≠0:=fun e=>h (Int.gcd_eq_zero_iff.1 e).2
 obtain ⟨k,hk⟩:∃ k:Int,k=if s.2.2<0 then -(Int.gcd (Int.gcd s.1 s.2.1) s.2.2:Int) else Int.gcd (Int.gcd s.1 s.2.1) s.2.2:=⟨_,rfl⟩
 have hka:k.natAbs=Int.gcd (Int.gcd s.1 s.2.1) s.2.2:=by rw [hk];split<;>omega
 have hk0:k≠0:=by omega
 have d3:k ∣ s.2.2:=by rw [← Int.natAbs_dvd,hka];exact Int.gcd_dvd_right _ _
 have d12:k ∣ (Int.gcd s.1 s.2.1:Int):=by rw [← Int.natAbs_dvd,hka];exact Int.gcd_dvd_left _ _
 have d1:k ∣ s.1:=Int.dvd_trans d12 (Int.gcd_dvd_left _ _)
 have d2:k ∣ s.2.1:=Int.dvd_trans d12 (Int.gcd_dvd_right _ _)
 have e1:=Int.mul_ediv_cancel' d1
 have e2:=Int.mul_ediv_cancel' d2
 have e3:=Int.mul_ediv_cancel' d3
 have er:redS s=(s.1 / k,s.2.1 / k,s.2.2 / k):=by unfold redS;dsimp only;rw [← hk]
 rw [er]
 refine ⟨k,?_,hk0,e1,e2,e3,?_⟩
 ·rw [hk];split<;>omega
 ·dsimp only
  have:=hka
  conv at this=>rhs;rw [← e1,← e2,← e3]
  rw [Int.gcd_mul_left] at this
  have h2:Int.gcd ((k.natAbs*Int.gcd (s.1 / k) (s.2.1 / k):Nat):Int) (k*(s.2.2 / k))=k.natAbs*Int.gcd (Int.gcd (s.1 / k) (s.2.1 / k)) (s.2.2 / k):=by
   have:((k.natAbs*Int.gcd (s.1 / k) (s.2.1 / k):Nat):Int).gcd (k*(s.2.2 / k))=Int.gcd (k*(Int.gcd (s.1 / k) (s.2.1 / k):Int)) (k*(s.2.2 / k)):=by
    have e:Int.natAbs ((k.natAbs*Int.gcd (s.1 / k) (s.2.1 / k):Nat):Int)=Int.natAbs (k*(Int.gcd (s.1 / k) (s.2.1 / k):Int)):=by rw [Int.natAbs_natCast,Int.natAbs_mul,Int.natAbs_natCast]
    show Nat.gcd _ _=Nat.gcd _ _
    rw [e]
   rw [this,Int.gcd_mul_left]
  rw [h2] at this
  have hp:0<k.natAbs:=by omega
  exact (Nat.eq_of_mul_eq_mul_left hp (by rw [← this,Nat.mul_one])).symm
theorem crS_mix {h t:Int} {s n:Spt} (hd:0<s.2.2) (hd2:0<n.2.2) (hh:(0<h∧t<0)∨(h<0∧0<t)):Mix s n (crS h t s n):=by
 rcases hh with ⟨h1,h2⟩ | ⟨h1,h2⟩
 ·have hn:s.2.2*t-n.2.2*h<0:=by
   have:=Int.mul_neg_of_pos_of_neg hd h2
   have:=Int.mul_pos hd2 h1
   omega
  obtain ⟨k,k1,k2,e1,e2,e3,er⟩:=redS_ok (s:=(s.1*t-n.1*h,s.2.1*t-n.2.1*h,s.2.2*t-n.2.2*h)) (by dsimp only;omega)
  refine ⟨⟨-k,-t,h,?_,by omega,by omega,?_,?_,?_⟩,er⟩
  ·dsimp only at k1;omega
  all_goals
   unfold crS
   dsimp only at e1 e2 e3
   grind
 ·have hn:0<s.2.2*t-n.2.2*h:=by
   have:=Int.mul_pos hd h2
   have:=Int.mul_neg_of_pos_of_neg hd2 h1
   omega
  obtain ⟨k,k1,k2,e1,e2,e3,er⟩:=redS_ok (s:=(s.1*t-n.1*h,s.2.1*t-n.2.1*h,s.2.2*t-n.2.2*h)) (by dsimp only;omega)
  refine ⟨⟨k,t,-h,?_,by omega,by omega,?_,?_,?_⟩,er⟩
  ·dsimp only at k1;omega
  all_goals
   unfold crS
   dsimp only at e1 e2 e3
   grind
theorem crS_on {s n:Spt} (L:Spt) (hd:0<s.2.2) (hd2:0<n.2.2) (hh:(0<lev L s∧lev L n<0)∨(lev L s<0∧0<lev L n)):lev L (crS (lev L s) (lev L n) s n)=0:=by
 have hn:s.2.2*lev L n-n.2.2*lev L s≠0:=by
  rcases hh with ⟨h1,h2⟩ | ⟨h1,h2⟩
  ·have:=Int.mul_neg_of_pos_of_neg hd h2
   have:=Int.mul_pos hd2 h1
   omega
  ·have:=Int.mul_pos hd h2
   have:=Int.mul_neg_of_pos_of_neg hd2 h1
   omega
 obtain ⟨k,k1,k2,e1,e2,e3,er⟩:=redS_ok (s:=(s.1*lev L n-n.1*lev L s,s.2.1*lev L n-n.2.1*lev L s,s.2.2*lev L n-n.2.2*lev L s)) hn
 have:k*lev L (crS (lev L s) (lev L n) s n)=0:=by
  unfold crS
  generalize redS _=c at *
  dsimp only at e1 e2 e3
  have ex:k*lev L c=L.1*(k*c.1)+L.2.1*(k*c.2.1)+L.2.2*(k*c.2.2):=by unfold lev;grind
  rw [ex,e1,e2,e3]
  unfold lev
  grind
 rcases Int.mul_eq_zero.1 this with q | q
 ·exact absurd q k2
 ·exact q

abbrev z3:Spt:=(0,0,0)
def clS (L:Spt) (o:List Spt) (s n:Spt):List Spt :=
 let o2:=if 0≤lev L s then adS o s else o
 if (0<lev L s∧lev L n<0)∨(lev L s<0∧0<lev L n) then adS o2 (crS (lev L s) (lev L n) s n) else o2
def clN (L:Spt) (l:List Spt):Nat→List Spt
 | 0=>[]
 | k+1=>clS L (clN L l k) (l.getD k z3) (l.getD ((k+1) % l.length) z3)
def clR (L:Spt) (l:List Spt):List Spt:=clN L l l.length
theorem adS_cases (l:List Spt) (s:Spt):(l.getLast? = some s∧adS l s=l)∨(l.getLast? ≠ some s∧adS l s=l++[s]):=by
 unfold adS
 by_cases h:l.getLast? = some s
 ·exact .inl ⟨h,if_pos h⟩
 ·exact .inr ⟨h,if_neg h⟩
theorem adS_mem {l:List Spt} {s x:Spt} (h:x∈adS l s):x∈l∨x=s:=by
 rcases adS_cases l s with ⟨_,e⟩ | ⟨_,e⟩
 ·rw [e] at h;exact .inl h
 ·rw [e,List.mem_append,List.mem_singleton] at h;exact h
theorem adS_len (l:List Spt) (s:Spt):(adS l s).length≤l.length+1:=by
 rcases adS_cases l s with ⟨_,e⟩ | ⟨_,e⟩
 ·rw [e];omega
 ·rw [e,List.length_append];exact Nat.le_refl _
theorem adS_last (l:List Spt) (s:Spt):(adS l s).getLast? = some s:=by
 rcases adS_cases l s with ⟨h,e⟩ | ⟨_,e⟩
 ·rw [e,h]
 ·rw [e];simp
theorem adS_head (l:List Spt) (s:Spt):(adS l s).head? = if l=[] then some s else l.head? := by
 rcases adS_cases l s with ⟨h,e⟩ | ⟨_,e⟩
 ·rw [e,if_neg (fun e=>by rw [e] at h;cases h)]
 ·rw [e]
  cases l with
  | nil=>rfl
  | cons x l=>rfl
theorem getD_mem3 {l:List Spt} {k:Nat} (h:k<l.length):l.getD k z3∈l:=by simp [List.getD,h]
theorem clS_all {Q:Spt→Prop} (L:Spt) {o:List Spt} {s n:Spt} (hQ:∀ s t c,Q s→Q t→Mix s t c→Q c) (hp:∀ x,Q x→0<x.2.2) (ho:∀ x∈o,Q x) (hs:Q s) (hn:Q n):∀ x∈clS L o s n,Q x:=by
 have h2:∀ x∈(if 0≤lev L s then adS o s else o),Q x:=fun x hx=>by
  split at hx
  ·rcases adS_mem hx with h | h
   ·exact ho x h
   ·rw [h];exact hs
  ·exact ho x hx
 intro x hx
 unfold clS at hx
 dsimp only at hx
 split at hx
 ·rename_i hc
  rcases adS_mem hx with h | h
  ·exact h2 x h
  ·rw [h];exact hQ s n _ hs hn (crS_mix (hp s hs) (hp n hn) hc)
 ·exact h2 x hx
theorem clN_all {Q:Spt→Prop} (L:Spt) {l:List Spt} (hQ:∀ s t c,Q s→Q t→Mix s t c→Q c) (hp:∀ x,Q x→0<x.2.2) (hl:∀ x∈l,Q x):∀ k,k≤l.length→∀ x∈clN L l k,Q x
 | 0,_,x,hx=>by cases hx
 | k+1,h,x,hx=>clS_all L hQ hp (clN_all L hQ hp hl k (by omega)) (hl _ (getD_mem3 (by omega))) (hl _ (getD_mem3 (Nat.mod_lt _ (by omega)))) x hx
theorem clS_len (L:Spt) (o:List Spt) (s n:Spt):(clS L o s n).length≤o.length+2:=by
 unfold clS
 dsimp only
 have h2:(if 0≤lev L s then adS o s else o).length≤o.length+1:=by
  split
  ·exact adS_len _ _
  ·omega
 split
 ·exact Nat.le_trans (adS_len _ _) (by omega)
 ·omega
theorem clN_len (L:Spt) (l:List Spt):∀ k,(clN L l k).length≤2*k
 | 0=>Nat.le_refl _
 | k+1=>by
  have:=clN_len L l k
  exact Nat.le_trans (clS_len L _ _ _) (by omega)
theorem clN_left (L:Spt) {l:List Spt} (hl:∀ x∈l,0<x.2.2):∀ k,k≤l.length→∀ x∈clN L l k,0≤lev L x
 | 0,_,x,hx=>by cases hx
 | k+1,h,x,hx=>by
  have ih:=clN_left L hl k (by omega)
  have d1:=hl _ (getD_mem3 (show k<l.length by omega))
  have d2:=hl _ (getD_mem3 (show (k+1) % l.length<l.length from Nat.mod_lt _ (by omega)))
  unfold clN clS at hx
  dsimp only at hx
  have h2:∀ x∈(if 0≤lev L (l.getD k z3) then adS (clN L l k) (l.getD k z3) else clN L l k),0≤lev L x:=fun x hx=>by
   split at hx
   ·rename_i hs
    rcases adS_mem hx with h | h
    ·exact ih x h
    ·rw [h];exact hs
   ·exact ih x hx
  split at hx
  ·rename_i hc
   rcases adS_mem hx with h | h
   ·exact h2 x h
   ·rw [h,crS_on L d1 d2 hc];exact Int.le_refl _
  ·exact h2 x hx
inductive Ach:List Spt→Prop
 | nil:Ach []
 | app {l:List Spt} {s:Spt} (h:Ach l) (e:∀ z,l.getLast? = some z→Eg z s):Ach (l++[s])
theorem Ach.adS {l:List Spt} {s:Spt} (h:Ach l) (e:∀ z,l.getLast? = some z→Eg z s):Ach (adS l s):=by
 rcases adS_cases l s with ⟨_,q⟩ | ⟨_,q⟩
 ·rw [q];exact h
 ·rw [q];exact .app h e
theorem getD_app3 {l:List Spt} {c:Spt} {i:Nat} (h:i<l.length):(l++[c]).getD i z3=l.getD i z3:=by
 simp [List.getD,List.getElem?_append_left h]
theorem getD_last3 {l:List Spt} (h:0<l.length):l.getLast? = some (l.getD (l.length-1) z3):=by
 rw [List.getLast?_eq_getElem?]
 have:l.length-1<l.length:=by omega
 simp [List.getD,this]
theorem Ach.get {l:List Spt} (h:Ach l):∀ i,i+1<l.length→Eg (l.getD i z3) (l.getD (i+1) z3):=by
 induction h with
 | nil=>intro i hi;simp at hi
 | @app l s h e ih =>
  intro i hi
  rw [List.length_append,List.length_singleton] at hi
  rw [getD_app3 (by omega)]
  by_cases hx:i+1<l.length
  ·rw [getD_app3 hx];exact ih i hx
  ·have e1:(l++[s]).getD (i+1) z3=s:=by
    rw [show i+1=l.length by omega];simp [List.getD]
   rw [e1]
   refine e _ ?_
   rw [getD_last3 (by omega),show l.length-1=i by omega]
def Rel (L z s:Spt):Prop:=if lev L s<0 then lev L z=0 else Eg z s
structure Poly (l:List Spt):Prop where
 d0:∀ x∈l,0<x.2.2
 d12:∀ x∈l,x.2.2≤12
 eg:∀ i,i<l.length→Eg (l.getD i z3) (l.getD ((i+1) % l.length) z3)
theorem eg_line {L s t:Spt} (l1:L.1.natAbs≤1) (l2:L.2.1.natAbs≤1) (l0:¬ (L.1=0∧L.2.1=0)) (h1:lev L s=0) (h2:lev L t=0):Eg s t:=⟨L,by omega,by omega,l0,h1,h2⟩
theorem Eg.mix {s t c:Spt} (h:Eg s t) (hm:Mix s t c):Eg s c∧Eg c t:=by
 obtain ⟨e,a,b,z,h1,h2⟩:=h
 have:=hm.zero e h1 h2
 exact ⟨⟨e,a,b,z,h1,this⟩,⟨e,a,b,z,this,h2⟩⟩
structure Inv (L s0:Spt) (k:Nat) (o:List Spt) (s:Spt):Prop where
 d:∀ x∈o,x.2.2≤12
 a:Ach o
 r:∀ z,o.getLast? = some z→Rel L z s
 e:o=[]→k=0∨lev L s≤0
 z:k=0→o=[]∧s=s0
 p:0≤lev L s0→0<k→o.head? = some s0
 n:lev L s0<0→∀ f,o.head? = some f→lev L f=0
theorem adS_ne (l:List Spt) (s:Spt):adS l s≠[]:=fun e=>by
 have:=adS_last l s
 rw [e] at this
 cases this
theorem inv_step {L s0 s n:Spt} {k:Nat} {o:List Spt} (l1:L.1.natAbs≤1) (l2:L.2.1.natAbs≤1) (l0:¬ (L.1=0∧L.2.1=0)) (h:Inv L s0 k o s) (hd1:0<s.2.2) (hd2:0<n.2.2) (hc:s.2.2≤12) (eg:Eg s n):Inv L s0 (k+1) (clS L o s n) n:=by
 obtain ⟨o2,ho2⟩:∃ o2,o2=if 0≤lev L s then adS o s else o:=⟨_,rfl⟩
 have A:(∀ x∈o2,x.2.2≤12)∧Ach o2∧(0≤lev L s→o2.getLast? = some s)∧(lev L s<0→∀ z,o2.getLast? = some z→lev L z=0)∧(0≤lev L s0→o2.head? = some s0)∧(lev L s0<0→∀ f,o2.head? = some f→lev L f=0):=by
  by_cases hs:0≤lev L s
  ·rw [if_pos hs] at ho2
   subst ho2
   refine ⟨fun x hx=>?_,h.a.adS fun z hz=>?_,fun _=>adS_last o s,fun q=>by omega,fun q=>?_,fun q f hf=>?_⟩
   ·rcases adS_mem hx with q | q
    ·exact h.d x q
    ·rw [q];exact hc
   ·have:=h.r z hz
    unfold Rel at this
    rwa [if_neg (by omega)] at this
   ·rw [adS_head]
    by_cases k0:k=0
    ·obtain ⟨z1,z2⟩:=h.z k0
     rw [if_pos z1,z2]
    ·have:=h.p q (by omega)
     rw [if_neg (fun e=>by rw [e] at this;cases this),this]
   ·rw [adS_head] at hf
    by_cases ho:o=[]
    ·rw [if_pos ho] at hf
     have e:s=f:=Option.some.inj hf
     rcases h.e ho with k0 | k0
     ·have:=(h.z k0).2
      rw [this] at hs
      omega
     ·rw [← e];omega
    ·rw [if_neg ho] at hf
     exact h.n q f hf
  ·rw [if_neg hs] at ho2
   subst ho2
   refine ⟨h.d,h.a,fun q=>absurd q hs,fun _ z hz=>?_,fun q=>?_,h.n⟩
   ·have:=h.r z hz
    unfold Rel at this
    rwa [if_pos (by omega)] at this
   ·refine h.p q ?_
    by_cases k0:k=0
    ·have:=(h.z k0).2
     rw [this] at hs
     omega
    ·omega
 obtain ⟨A1,A2,A3,A4,A5,A6⟩:=A
 have e1:clS L o s n=if (0<lev L s∧lev L n<0)∨(lev L s<0∧0<lev L n) then adS o2 (crS (lev L s) (lev L n) s n) else o2:=by unfold clS;dsimp only;rw [← ho2]
 rw [e1]
 by_cases hx:(0<lev L s∧lev L n<0)∨(lev L s<0∧0<lev L n)
 ·rw [if_pos hx]
  have hm:=crS_mix hd1 hd2 hx
  have hon:=crS_on L hd1 hd2 hx
  generalize crS (lev L s) (lev L n) s n=c at *
  obtain ⟨g1,g2⟩:=eg.mix hm
  have hc12:c.2.2≤12:=by
   obtain ⟨e,a,b,zz,h1,h2⟩:=g1
   have hk0:0<c.2.2:=by
    obtain ⟨kk,p,q,hk,hp,hq,_,_,e3⟩:=hm.ex
    have x1:=Int.mul_pos hp hd1
    have x2:=Int.mul_pos hq hd2
    exact Int.pos_of_mul_pos_right (a:=kk) (by rw [e3];omega) hk
   exact small_d a b zz l1 l2 h1 h2 hon (by rcases hx with q | q<;>omega) hk0 hm.red
  refine ⟨fun x hx2=>?_,A2.adS fun z hz=>?_,fun z hz=>?_,fun e=>absurd e (adS_ne _ _),fun e=>by omega,fun q _=>?_,fun q f hf=>?_⟩
  ·rcases adS_mem hx2 with q | q
   ·exact A1 x q
   ·rw [q];exact hc12
  ·rcases hx with q | q
   ·have:=A3 (by omega)
    rw [this] at hz
    rw [← Option.some.inj hz];exact g1
   ·exact eg_line l1 l2 l0 (A4 q.1 z hz) hon
  ·rw [adS_last] at hz
   rw [← Option.some.inj hz]
   unfold Rel
   split
   ·exact hon
   ·exact g2
  ·have:=A5 q
   rw [adS_head,if_neg (fun e=>by rw [e] at this;cases this),this]
  ·rw [adS_head] at hf
   by_cases ho:o2=[]
   ·rw [if_pos ho] at hf
    rw [← Option.some.inj hf];exact hon
   ·rw [if_neg ho] at hf
    exact A6 q f hf
 ·rw [if_neg hx]
  refine ⟨A1,A2,fun z hz=>?_,fun e=>?_,fun e=>by omega,fun q _=>A5 q,A6⟩
  ·unfold Rel
   by_cases hs:0≤lev L s
   ·have:=A3 hs
    rw [this] at hz
    rw [← Option.some.inj hz]
    split
    ·omega
    ·exact eg
   ·have:=A4 (by omega) z hz
    split
    ·exact this
    ·exact eg_line l1 l2 l0 this (by omega)
  ·by_cases hs:0≤lev L s
   ·have:=A3 hs
    rw [e] at this
    cases this
   ·right;omega
theorem clN_inv {L:Spt} {l:List Spt} (l1:L.1.natAbs≤1) (l2:L.2.1.natAbs≤1) (l0:¬ (L.1=0∧L.2.1=0)) (h:Poly l):∀ k,k≤l.length→Inv L (l.getD 0 z3) k (clN L l k) (l.getD (k % l.length) z3)
 | 0,_=>⟨fun x hx=>(by cases hx),Ach.nil,fun z hz=>(by cases hz),fun _=>Or.inl rfl,fun _=>⟨rfl,(by rw [Nat.zero_mod])⟩,fun _ h=>absurd h (by omega),fun _ f hf=>(by cases hf)⟩
 | k+1,hk=>by
  have ih:=clN_inv l1 l2 l0 h k (by omega)
  have hkl:k<l.length:=by omega
  have hnl:(k+1) % l.length<l.length:=Nat.mod_lt _ (by omega)
  rw [Nat.mod_eq_of_lt hkl] at ih
  exact inv_step l1 l2 l0 ih (h.d0 _ (getD_mem3 hkl)) (h.d0 _ (getD_mem3 hnl)) (h.d12 _ (getD_mem3 hkl)) (h.eg k hkl)
theorem mix_d {s t c:Spt} (h1:0<s.2.2) (h2:0<t.2.2) (hm:Mix s t c):0<c.2.2:=by
 obtain ⟨kk,p,q,hk,hp,hq,_,_,e3⟩:=hm.ex
 have x1:=Int.mul_pos hp h1
 have x2:=Int.mul_pos hq h2
 exact Int.pos_of_mul_pos_right (a:=kk) (by rw [e3];omega) hk
theorem clR_poly {L:Spt} {l:List Spt} (l1:L.1.natAbs≤1) (l2:L.2.1.natAbs≤1) (l0:¬ (L.1=0∧L.2.1=0)) (h:Poly l):Poly (clR L l):=by
 have hI:=clN_inv l1 l2 l0 h l.length (Nat.le_refl _)
 have hd:=clN_all (Q:=fun x=>0<x.2.2) L (fun s t c h1 h2 hm=>mix_d h1 h2 hm) (fun x hx=>hx) h.d0 l.length (Nat.le_refl _)
 unfold clR
 rw [Nat.mod_self] at hI
 refine ⟨hd,hI.d,fun i hi=>?_⟩
 by_cases e:i+1<(clN L l l.length).length
 ·rw [Nat.mod_eq_of_lt e];exact hI.a.get i e
 ·rw [show i+1=(clN L l l.length).length by omega,Nat.mod_self,show i=(clN L l l.length).length-1 by omega]
  have hl:=getD_last3 (show 0<(clN L l l.length).length by omega)
  have hr:=hI.r _ hl
  have hl0:l.length≠0:=fun e=>by
   rw [e] at hi
   exact absurd hi (by unfold clN;simp)
  have hh:(clN L l l.length).head? = some ((clN L l l.length).getD 0 z3):=by
   generalize clN L l l.length=o at *
   cases o with
   | nil=>simp at hi
   | cons x o=>rfl
  unfold Rel at hr
  by_cases hs:lev L (l.getD 0 z3)<0
  ·rw [if_pos hs] at hr
   exact eg_line l1 l2 l0 hr (hI.n hs _ hh)
  ·rw [if_neg hs] at hr
   have:=hI.p (by omega) (by omega)
   rw [hh] at this
   rw [Option.some.inj this];exact hr
end Go.Proofs.YtechphmljdgoaaaGreatDoor
namespace Go.Proofs.YtechphmljdgoaaaGreatDoor
def dt3 (p q r:Spt):Int:=p.1*(q.2.1*r.2.2-q.2.2*r.2.1)-p.2.1*(q.1*r.2.2-q.2.2*r.1)+p.2.2*(q.1*r.2.1-q.2.1*r.1)
theorem dt3_self1 (p r:Spt):dt3 p p r=0:=by unfold dt3;grind
theorem dt3_self2 (p r:Spt):dt3 p r r=0:=by unfold dt3;grind
theorem dt3_rot (p q r:Spt):dt3 p q r=dt3 r p q:=by unfold dt3;grind
theorem dt3_mix3 {s t c:Spt} (h:Mix s t c) (x y:Spt) (h1:0≤dt3 x y s) (h2:0≤dt3 x y t):0≤dt3 x y c:=by
 have e:∀ z,dt3 x y z=lev (x.2.1*y.2.2-x.2.2*y.2.1,x.2.2*y.1-x.1*y.2.2,x.1*y.2.1-x.2.1*y.1) z:=fun z=>by unfold dt3 lev;grind
 rw [e] at h1 h2 ⊢
 exact h.nn _ h1 h2
theorem dt3_mix1 {s t c:Spt} (h:Mix s t c) (x y:Spt) (h1:0≤dt3 s x y) (h2:0≤dt3 t x y):0≤dt3 c x y:=by
 rw [← dt3_rot] at *
 exact dt3_mix3 h x y h1 h2
theorem dt3_mix2 {s t c:Spt} (h:Mix s t c) (x y:Spt) (h1:0≤dt3 x s y) (h2:0≤dt3 x t y):0≤dt3 x c y:=by
 rw [dt3_rot] at *
 exact dt3_mix3 h y x h1 h2
inductive Tr:List Spt→Prop
 | nil:Tr []
 | app {o:List Spt} {s:Spt} (h:Tr o) (e:o.Pairwise fun x y=>0≤dt3 x y s):Tr (o++[s])
theorem Tr.get {o:List Spt} (h:Tr o):∀ i j k,i<j→j<k→k<o.length→0≤dt3 (o.getD i z3) (o.getD j z3) (o.getD k z3):=by
 induction h with
 | nil=>intro i j k _ _ h;simp at h
 | @app o s h e ih =>
  intro i j k hij hjk hk
  rw [List.length_append,List.length_singleton] at hk
  rw [getD_app3 (show i<o.length by omega),getD_app3 (show j<o.length by omega)]
  by_cases hx:k<o.length
  ·rw [getD_app3 hx];exact ih i j k hij hjk hx
  ·have e1:(o++[s]).getD k z3=s:=by
    rw [show k=o.length by omega];simp [List.getD]
   rw [e1]
   have:=List.pairwise_iff_getElem.1 e i j (by omega) (by omega) hij
   have hi:o.getD i z3=o[i]'(by omega):=by simp [List.getD,show i<o.length by omega]
   have hj:o.getD j z3=o[j]'(by omega):=by simp [List.getD,show j<o.length by omega]
   rw [hi,hj];exact this
structure Cv (v:Nat→Spt) (n k:Nat) (o:List Spt):Prop where
 t1:Tr o
 t2:∀ m,k≤m→m≤n→o.Pairwise fun x y=>0≤dt3 x y (v m)
 t3:∀ x∈o,∀ a b,k≤a→a≤b→b≤n→0≤dt3 x (v a) (v b)
 t4:∀ a b c,k≤a→a≤b→b≤c→c≤n→0≤dt3 (v a) (v b) (v c)
theorem pw_app {o:List Spt} {s:Spt} {R:Spt→Spt→Prop} (h:o.Pairwise R) (hs:∀ x∈o,R x s):(o++[s]).Pairwise R:=by
 rw [List.pairwise_append]
 refine ⟨h,by simp,fun a ha b hb=>?_⟩
 rw [List.mem_singleton.1 hb];exact hs a ha
theorem Cv.next {v:Nat→Spt} {n k:Nat} {o:List Spt} (h:Cv v n k o):Cv v n (k+1) o :=
 ⟨h.t1,fun m a b=>h.t2 m (by omega) b,fun x hx a b p q r=>h.t3 x hx a b (by omega) q r,fun a b c p q r s=>h.t4 a b c (by omega) q r s⟩
theorem Cv.add {v:Nat→Spt} {n k:Nat} {o:List Spt} (h:Cv v n k o) (hk:k≤n):Cv v n k (adS o (v k)):=by
 rcases adS_cases o (v k) with ⟨_,e⟩ | ⟨_,e⟩
 ·rw [e];exact h
 ·rw [e]
  refine ⟨.app h.t1 (h.t2 k (Nat.le_refl _) hk),fun m a b=>pw_app (h.t2 m a b) fun x hx=>h.t3 x hx k m (Nat.le_refl _) a b,fun x hx a b p q r=>?_,h.t4⟩
  rcases List.mem_append.1 hx with hx | hx
  ·exact h.t3 x hx a b p q r
  ·rw [List.mem_singleton.1 hx];exact h.t4 k a b (Nat.le_refl _) p q r
theorem Cv.cross {v:Nat→Spt} {n k:Nat} {o:List Spt} {c:Spt} (h:Cv v n k o) (hk:k+1≤n) (hm:Mix (v k) (v (k+1)) c):Cv v n (k+1) (adS o c):=by
 rcases adS_cases o c with ⟨_,e⟩ | ⟨_,e⟩
 ·rw [e];exact h.next
 ·rw [e]
  refine ⟨.app h.t1 ?_,fun m a b=>pw_app (h.t2 m (by omega) b) fun x hx=>?_,fun x hx a b p q r=>?_,h.next.t4⟩
  ·have p1:=h.t2 k (Nat.le_refl _) (by omega)
   have p2:=h.t2 (k+1) (by omega) hk
   exact (p1.and p2).imp fun {x y} hxy=>dt3_mix3 hm x y hxy.1 hxy.2
  ·exact dt3_mix2 hm x (v m) (h.t3 x hx k m (by omega) (by omega) b) (h.t3 x hx (k+1) m (by omega) a b)
  ·rcases List.mem_append.1 hx with hx | hx
   ·exact h.t3 x hx a b (by omega) q r
   ·rw [List.mem_singleton.1 hx]
    exact dt3_mix1 hm _ _ (h.t4 k a b (by omega) (by omega) q r) (h.t4 (k+1) a b (by omega) p q r)
theorem Cv.step {v:Nat→Spt} {n k:Nat} {o:List Spt} {L:Spt} (h:Cv v n k o) (hk:k+1≤n) (d1:0<(v k).2.2) (d2:0<(v (k+1)).2.2):Cv v n (k+1) (clS L o (v k) (v (k+1))):=by
 have h2:Cv v n k (if 0≤lev L (v k) then adS o (v k) else o):=by
  split
  ·exact h.add (by omega)
  ·exact h
 unfold clS
 dsimp only
 split
 ·rename_i hc
  exact h2.cross hk (crS_mix d1 d2 hc)
 ·exact h2.next
def TriL (l:List Spt):Prop:=∀ i j k,i<j→j<k→k<l.length→0≤dt3 (l.getD i z3) (l.getD j z3) (l.getD k z3)
theorem clR_tri (L:Spt) {l:List Spt} (hd:∀ x∈l,0<x.2.2) (h:TriL l):TriL (clR L l):=by
 have key:∀ k,k≤l.length→Cv (fun i=>l.getD (i % l.length) z3) l.length k (clN L l k):=by
  intro k
  induction k with
  | zero =>
   intro _
   refine ⟨.nil,fun m _ _=>List.Pairwise.nil,fun x hx=>(by cases hx),fun a b c _ h1 h2 h3=>?_⟩
   by_cases hn:l.length=0
   ·rw [show a=0 by omega,show b=0 by omega,dt3_self1];exact Int.le_refl _
   by_cases e1:a=b
   ·rw [e1,dt3_self1];exact Int.le_refl _
   by_cases e2:b=c
   ·rw [e2,dt3_self2];exact Int.le_refl _
   rw [Nat.mod_eq_of_lt (show a<l.length by omega),Nat.mod_eq_of_lt (show b<l.length by omega)]
   by_cases e3:c<l.length
   ·rw [Nat.mod_eq_of_lt e3];exact h a b c (by omega) (by omega) e3
   ·rw [show c=l.length by omega,Nat.mod_self,dt3_rot]
    by_cases e4:a=0
    ·rw [e4,dt3_self1];exact Int.le_refl _
    ·exact h 0 a b (by omega) (by omega) (by omega)
  | succ k ih =>
   intro hk
   have hkl:k<l.length:=by omega
   have hnl:(k+1) % l.length<l.length:=Nat.mod_lt _ (by omega)
   have e1:=Nat.mod_eq_of_lt hkl
   have:=(ih (by omega)).step (L:=L) hk (by rw [e1];exact hd _ (getD_mem3 hkl)) (hd _ (getD_mem3 hnl))
   rw [e1] at this
   exact this
 exact (key l.length (Nat.le_refl _)).t1.get
theorem cvx_trn {l:List (Int×Int)} (h:Cvx l) {i j:Nat} (hij:i<j):∀ k,j<k→k<l.length→0<trn (l.getD i (0,0)) (l.getD j (0,0)) (l.getD k (0,0)):=by
 intro k
 induction k with
 | zero=>intro h;omega
 | succ k ih =>
  intro hjk hk
  have hs:∀ m,i+1<m→m<l.length→0<trn (l.getD i (0,0)) (l.getD (i+1) (0,0)) (l.getD m (0,0)):=fun m hm hml=>by
   have:=h i m (by omega) hml (by omega) (by rw [Nat.mod_eq_of_lt (by omega)];omega)
   rwa [Nat.mod_eq_of_lt (show i+1<l.length by omega)] at this
  have hc:0<trn (l.getD k (0,0)) (l.getD (k+1) (0,0)) (l.getD i (0,0)):=by
   have:=h k i (by omega) (by omega) (by omega) (by rw [Nat.mod_eq_of_lt hk];omega)
   rwa [Nat.mod_eq_of_lt hk] at this
  have hc2:0<trn (l.getD i (0,0)) (l.getD k (0,0)) (l.getD (k+1) (0,0)):=by
   have e:trn (l.getD k (0,0)) (l.getD (k+1) (0,0)) (l.getD i (0,0))=trn (l.getD i (0,0)) (l.getD k (0,0)) (l.getD (k+1) (0,0)):=by unfold trn;grind
   omega
  by_cases e:j=k
  ·rw [e];exact hc2
  ·have ih:=ih (by omega) (by omega)
   by_cases ej:j=i+1
   ·rw [ej];exact hs (k+1) (by omega) hk
   have g1:=hs j (by omega) (by omega)
   have g2:=hs k (by omega) (by omega)
   have g3:=hs (k+1) (by omega) hk
   generalize l.getD i (0,0)=a at *
   generalize l.getD (i+1) (0,0)=b at *
   generalize l.getD j (0,0)=u at *
   generalize l.getD k (0,0)=w at *
   generalize l.getD (k+1) (0,0)=x at *
   have e:trn a b w*trn a u x=trn a b u*trn a w x+trn a b x*trn a u w:=by unfold trn;grind
   have m1:=Int.mul_pos g1 hc2
   have m2:=Int.mul_pos g3 ih
   exact Int.pos_of_mul_pos_right (a:=trn a b w) (by omega) g2
def spS (l:List (Int×Int)):List Spt:=l.map fun p=>(p.1,p.2,1)
theorem spS_getD {l:List (Int×Int)} {i:Nat} (h:i<l.length):(spS l).getD i z3=((l.getD i (0,0)).1,(l.getD i (0,0)).2,1):=by simp [spS,List.getD,h]
theorem spS_len (l:List (Int×Int)):(spS l).length=l.length:=List.length_map _
theorem spS_tri {l:List (Int×Int)} (h:Cvx l):TriL (spS l):=by
 intro i j k hij hjk hk
 rw [spS_len] at hk
 rw [spS_getD (by omega),spS_getD (by omega),spS_getD hk]
 have:=cvx_trn h hij k hjk hk
 have e:dt3 ((l.getD i (0,0)).1,(l.getD i (0,0)).2,1) ((l.getD j (0,0)).1,(l.getD j (0,0)).2,1) ((l.getD k (0,0)).1,(l.getD k (0,0)).2,1)=trn (l.getD i (0,0)) (l.getD j (0,0)) (l.getD k (0,0)):=by unfold dt3 trn;grind
 omega
theorem spS_poly {l:List (Int×Int)} (h3:3≤l.length) (h:Cvx l) (hb:∀ p∈l,0≤p.1∧p.1≤6∧0≤p.2∧p.2≤6):Poly (spS l):=by
 refine ⟨fun x hx=>?_,fun x hx=>?_,fun i hi=>?_⟩
 ·obtain ⟨p,_,rfl⟩:=List.mem_map.1 hx;exact Int.one_pos
 ·obtain ⟨p,_,rfl⟩:=List.mem_map.1 hx;show (1:Int)≤12;omega
 ·rw [spS_len] at hi ⊢
  have hn:(i+1) % l.length<l.length:=Nat.mod_lt _ (by omega)
  rw [spS_getD hi,spS_getD hn]
  have m1:l.getD i (0,0)∈l:=by simp [List.getD,hi]
  have m2:l.getD ((i+1) % l.length) (0,0)∈l:=by simp [List.getD,hn]
  have b1:=hb _ m1
  have b2:=hb _ m2
  have hne:¬ (l.getD i (0,0)=l.getD ((i+1) % l.length) (0,0)):=fun e=>by
   obtain ⟨k,hk,k1,k2⟩:∃ k,k<l.length∧k≠i∧k≠(i+1) % l.length:=by
    by_cases a0:0≠i∧0≠(i+1) % l.length
    ·exact ⟨0,by omega,a0.1,a0.2⟩
    by_cases a1:1≠i∧1≠(i+1) % l.length
    ·exact ⟨1,by omega,a1.1,a1.2⟩
    ·exact ⟨2,by omega,by omega,by omega⟩
   have:=h i k hi hk k1 k2
   rw [← e] at this
   unfold trn at this
   grind
  generalize l.getD i (0,0)=a at *
  generalize l.getD ((i+1) % l.length) (0,0)=b at *
  refine ⟨(-(b.2-a.2),b.1-a.1,(b.2-a.2)*a.1-(b.1-a.1)*a.2),by dsimp only;omega,by dsimp only;omega,fun e=>hne ?_,by unfold lev;dsimp only;grind,by unfold lev;dsimp only;grind⟩
  dsimp only at e
  exact Prod.ext (by omega) (by omega)
end Go.Proofs.YtechphmljdgoaaaGreatDoor
namespace Go.Proofs.YtechphmljdgoaaaGreatDoor
abbrev RP:=Rat×Rat
def rp (s:Spt):RP:=((s.1:Rat) / (s.2.2:Rat),(s.2.1:Rat) / (s.2.2:Rat))
def dtr (p q r:RP):Rat:=(q.1-p.1)*(r.2-p.2)-(q.2-p.2)*(r.1-p.1)
def lv (L:Spt) (p:RP):Rat:=(L.1:Rat)*p.1+(L.2.1:Rat)*p.2+(L.2.2:Rat)
structure Fn (F:RP→RP→Rat):Prop where
 anti:∀ p q,F q p=- F p q
 coll:∀ p m q,dtr p m q=0→F p q=F p m+F m q
theorem Fn.self {F:RP→RP→Rat} (h:Fn F) (p:RP):F p p=0:=by have:=h.anti p p;grind
theorem qcancel {a x y:Rat} (ha:a≠0) (h:a*x=a*y):x=y:=by
 have:a*(x-y)=0:=by grind
 rcases Rat.mul_eq_zero.1 this with q | q
 ·exact absurd q ha
 ·grind
def qsum:Nat→(Nat→Rat)→Rat
 | 0,_=>0
 | n+1,f=>qsum n f+f n
end Go.Proofs.YtechphmljdgoaaaGreatDoor
namespace Go.Proofs.YtechphmljdgoaaaGreatDoor
theorem rp_mul {s:Spt} (h:0<s.2.2):(s.1:Rat)=(rp s).1*(s.2.2:Rat)∧(s.2.1:Rat)=(rp s).2*(s.2.2:Rat)∧(0:Rat)<(s.2.2:Rat):=by
 have h0:(s.2.2:Rat)≠0:=fun e=>by have:=Rat.intCast_inj.1 (show ((s.2.2:Int):Rat)=((0:Int):Rat) from e);omega
 exact ⟨(Rat.div_mul_cancel h0).symm,(Rat.div_mul_cancel h0).symm,Rat.intCast_lt_intCast.2 h⟩
theorem lev_lv (L:Spt) {s:Spt} (h:0<s.2.2):((lev L s:Int):Rat)=(s.2.2:Rat)*lv L (rp s):=by
 obtain ⟨a,b,c⟩:=rp_mul h
 unfold lev lv
 rw [Rat.intCast_add,Rat.intCast_add,Rat.intCast_mul,Rat.intCast_mul,Rat.intCast_mul,a,b]
 grind
theorem lev_sgn (L:Spt) {s:Spt} (h:0<s.2.2):(0≤lev L s↔0≤lv L (rp s))∧(lev L s=0↔lv L (rp s)=0):=by
 have e:=lev_lv L h
 obtain ⟨_,_,c⟩:=rp_mul h
 refine ⟨⟨fun q=>?_,fun q=>?_⟩,fun q=>?_,fun q=>?_⟩
 ·have q2:(0:Rat)≤(lev L s:Int):=Rat.intCast_le_intCast.2 q
  refine Rat.not_lt.1 fun hl=>?_
  have:=Rat.mul_lt_mul_of_pos_left hl c
  grind
 ·refine Int.not_lt.1 fun hl=>?_
  have q2:((lev L s:Int):Rat)<((0:Int):Rat):=Rat.intCast_lt_intCast.2 hl
  have:=Rat.mul_nonneg (show (0:Rat)≤(s.2.2:Rat) by grind) q
  rw [e] at q2
  have:((0:Int):Rat)=0:=rfl
  grind
 ·rw [q] at e
  have:(s.2.2:Rat)*lv L (rp s)=0:=e.symm
  rcases Rat.mul_eq_zero.1 this with x | x
  ·grind
  ·exact x
 ·rw [q,Rat.mul_zero] at e
  exact Rat.intCast_inj.1 e
theorem dt3_dtr {p q r:Spt} (hp:0<p.2.2) (hq:0<q.2.2) (hr:0<r.2.2):((dt3 p q r:Int):Rat)=(p.2.2:Rat)*(q.2.2:Rat)*(r.2.2:Rat)*dtr (rp p) (rp q) (rp r):=by
 obtain ⟨a1,a2,a3⟩:=rp_mul hp
 obtain ⟨b1,b2,b3⟩:=rp_mul hq
 obtain ⟨c1,c2,c3⟩:=rp_mul hr
 unfold dt3 dtr
 simp only [Rat.intCast_add,Rat.intCast_sub,Rat.intCast_mul]
 rw [a1,a2,b1,b2,c1,c2]
 grind
end Go.Proofs.YtechphmljdgoaaaGreatDoor
namespace Go.Proofs.YtechphmljdgoaaaGreatDoor
def vlq (V:Rat×Rat×Rat) (p:RP):Rat:=V.1*p.1+V.2.1*p.2+V.2.2
def phi (V:Rat×Rat×Rat) (p q r:RP):Rat:=dtr p q r*(vlq V p+vlq V q+vlq V r) / 6
def fan (V:Rat×Rat×Rat) (l:List Spt):Rat:=qsum (l.length-2) fun i=>phi V (rp (l.getD 0 z3)) (rp (l.getD (i+1) z3)) (rp (l.getD (i+2) z3))
structure GrL (L:Spt) (o:RP):Prop where
 l1:L.1.natAbs≤1
 l2:L.2.1.natAbs≤1
 l0:¬ (L.1=0∧L.2.1=0)
 on:lv L o=0
theorem clR_all {Q:Spt→Prop} (L:Spt) {l:List Spt} (hQ:∀ s t c,Q s→Q t→Mix s t c→Q c) (hp:∀ x,Q x→0<x.2.2) (hl:∀ x∈l,Q x):∀ x∈clR L l,Q x:=clN_all L hQ hp hl l.length (Nat.le_refl _)
def neg3 (L:Spt):Spt:=(-L.1,-L.2.1,-L.2.2)
theorem lv_neg (L:Spt) (p:RP):lv (neg3 L) p=- lv L p:=by unfold lv neg3;simp only [Rat.intCast_neg];grind
theorem GrL.neg {L:Spt} {o:RP} (h:GrL L o):GrL (neg3 L) o:=⟨by have:=h.l1;unfold neg3;dsimp only;omega,by have:=h.l2;unfold neg3;dsimp only;omega,fun e=>h.l0 (by unfold neg3 at e;dsimp only at e;omega),by rw [lv_neg,h.on];grind⟩
theorem left_all (M:Spt) {L:Spt} {l:List Spt} (hP:Poly l) (h:∀ x∈l,0≤lev M x):∀ x∈clR L l,0≤lev M x:=fun x hx =>
 (clR_all (Q:=fun x=>0<x.2.2∧0≤lev M x) L (fun s t c h1 h2 hm=>⟨mix_d h1.1 h2.1 hm,hm.nn M h1.2 h2.2⟩) (fun x hx=>hx.1) (fun x hx=>⟨hP.d0 x hx,h x hx⟩) x hx).2
theorem left_self {L:Spt} {l:List Spt} (hP:Poly l):∀ x∈clR L l,0≤lev L x:=clN_left L hP.d0 l.length (Nat.le_refl _)
end Go.Proofs.YtechphmljdgoaaaGreatDoor
namespace Go.Proofs.YtechphmljdgoaaaGreatDoor
def clL (Ls:List Spt) (l:List Spt):List Spt:=Ls.foldr clR l
def OkL (Ls:List Spt):Prop:=∀ L∈Ls,∃ o,GrL L o
theorem clL_poly {Ls l:List Spt} (h:OkL Ls) (hP:Poly l):Poly (clL Ls l):=by
 induction Ls with
 | nil=>exact hP
 | cons L Ls ih =>
  obtain ⟨o,hL⟩:=h L (by simp)
  exact clR_poly hL.l1 hL.l2 hL.l0 (ih (fun M hM=>h M (by simp [hM])))
theorem clL_left {Ls l:List Spt} (h:OkL Ls) (hP:Poly l):∀ L∈Ls,∀ x∈clL Ls l,0≤lev L x:=by
 induction Ls with
 | nil=>intro L hL;cases hL
 | cons M Ls ih =>
  intro L hL x hx
  have hp:=clL_poly (fun M hM=>h M (by simp [hM])) hP (Ls:=Ls)
  rcases List.mem_cons.1 hL with e | e
  ·subst e;exact left_self hp x hx
  ·exact left_all L hp (fun y hy=>ih (fun M hM=>h M (by simp [hM])) L e y hy) x hx
def gX (a:Int):Spt:=(1,0,-a)
def lX (a:Int):Spt:=(-1,0,a)
def gY (a:Int):Spt:=(0,1,-a)
def lY (a:Int):Spt:=(0,-1,a)
def dgL (k:Int):Spt:=(1,-1,k)
theorem gl_gX (a:Int):GrL (gX a) ((a:Rat),0):=⟨by unfold gX;dsimp only;decide,by unfold gX;dsimp only;decide,by unfold gX;dsimp only;decide,by unfold lv gX;dsimp only;rw [Rat.intCast_neg];grind⟩
theorem gl_lX (a:Int):GrL (lX a) ((a:Rat),0):=⟨by unfold lX;dsimp only;decide,by unfold lX;dsimp only;decide,by unfold lX;dsimp only;decide,by unfold lv lX;dsimp only;rw [Rat.intCast_neg];grind⟩
theorem gl_gY (a:Int):GrL (gY a) (0,(a:Rat)):=⟨by unfold gY;dsimp only;decide,by unfold gY;dsimp only;decide,by unfold gY;dsimp only;decide,by unfold lv gY;dsimp only;rw [Rat.intCast_neg];grind⟩
theorem gl_lY (a:Int):GrL (lY a) (0,(a:Rat)):=⟨by unfold lY;dsimp only;decide,by unfold lY;dsimp only;decide,by unfold lY;dsimp only;decide,by unfold lv lY;dsimp only;rw [Rat.intCast_neg];grind⟩
theorem gl_dL (a:Int):GrL (dgL a) (0,(a:Rat)):=⟨by unfold dgL;dsimp only;decide,by unfold dgL;dsimp only;decide,by unfold dgL;dsimp only;decide,by unfold lv dgL;dsimp only;rw [Rat.intCast_neg];grind⟩
theorem okL_nil:OkL []:=fun _ h=>by cases h
theorem OkL.cons {L:Spt} {o:RP} {Ls:List Spt} (hL:GrL L o) (h:OkL Ls):OkL (L::Ls):=fun M hM=>by
 rcases List.mem_cons.1 hM with e | e
 ·subst e;exact ⟨o,hL⟩
 ·exact h M e
def lowL (x y:Int):List Spt:=[dgL (y-x),lX (x+1),gY y]
def uppL (x y:Int):List Spt:=[gX x,lY (y+1),neg3 (dgL (y-x))]
theorem okL_low (x y:Int):OkL (lowL x y):=.cons (gl_dL _) (.cons (gl_lX _) (.cons (gl_gY _) okL_nil))
theorem okL_upp (x y:Int):OkL (uppL x y):=.cons (gl_gX _) (.cons (gl_lY _) (.cons (gl_dL _).neg okL_nil))
end Go.Proofs.YtechphmljdgoaaaGreatDoor
namespace Go.Proofs.YtechphmljdgoaaaGreatDoor
theorem frac_mul (n d:Rat):n / d=n*(1 / d):=by rw [Rat.div_def,Rat.div_def];grind
end Go.Proofs.YtechphmljdgoaaaGreatDoor
namespace Go.Proofs.YtechphmljdgoaaaGreatDoor
end Go.Proofs.YtechphmljdgoaaaGreatDoor
namespace Go.Proofs.YtechphmljdgoaaaGreatDoor
open Go Go.Abs Go.PE
open Go.IntKind (wrap)
theorem remM_any {a b:Int} (h:b≠0):remM a b=some (a.tmod b):=by
 unfold remM
 rw [decide_eq_false h]
theorem gcd_loop:∀ (n:Nat) {a b:Int},b.natAbs≤n→∃ g:Int,loopM (fun (s:Int×Int)=>bif PE.notM (eqM s.2 0) then (remM s.1 s.2).bind fun r=>some (Sum.inl (s.2,r)) else some (Sum.inr s.1)) (a,b)=some g∧g.natAbs=Int.gcd a b
 | n,a,b,h=>by
  by_cases hb:b=0
  ·refine ⟨a,?_,by rw [hb,Int.gcd_zero_right]⟩
   rw [loopM_eq]
   dsimp only
   rw [eqI hb,notT,cond_false];rfl
  ·match n,h with
   | 0,h=>omega
   | n+1,h =>
    have hlt:(a.tmod b).natAbs<b.natAbs:=by rw [Int.natAbs_tmod];exact Nat.mod_lt _ (by omega)
    obtain ⟨g,e1,e2⟩:=gcd_loop n (a:=b) (b:=a.tmod b) (by omega)
    refine ⟨g,?_,?_⟩
    ·rw [loopM_eq]
     dsimp only
     rw [neI hb,notF,cond_true,remM_any hb]
     exact e1
    ·rw [e2]
     show Nat.gcd b.natAbs (a.tmod b).natAbs=Nat.gcd a.natAbs b.natAbs
     rw [Int.natAbs_tmod,Nat.gcd_comm b.natAbs,← Nat.gcd_rec,Nat.gcd_comm]
theorem gcd_ok {a b:Int} (ha:a.natAbs≤1000000000) (hb:b.natAbs≤1000000000):m93 (a,b)=some (Int.gcd a b:Int):=by
 obtain ⟨g,e1,e2⟩:=gcd_loop b.natAbs (a:=a) (b:=b) (Nat.le_refl _)
 have hg:Int.gcd a b≤1000000000:=by
  by_cases h:a=0∧b=0
  ·rw [h.1,h.2];decide
  ·by_cases h0:a=0
   ·rw [h0,Int.gcd_zero_left];exact hb
   ·exact Nat.le_trans (Int.gcd_le_natAbs_left b h0) ha
 unfold m93
 dsimp only
 refine bind_of e1 ?_
 rw [show negM g=-g from rfl,wrap_in (by omega) (by omega)]
 congr 1
 omega
theorem div_exact {x k:Int} (hk:k≠0) (h:k ∣ x) (hx:x.natAbs≤1000000000):divM .i64 x k=some (x / k):=by
 have h2:=Int.natAbs_ediv_le_natAbs x k
 rw [divM_pos hk,Int.tdiv_eq_ediv_of_dvd h,wrap_in (by omega) (by omega)]
theorem reduced_ok {s:Spt} (h:s.2.2≠0) (h1:s.1.natAbs≤1000000000) (h2:s.2.1.natAbs≤1000000000) (h3:s.2.2.natAbs≤1000000000):m72 s=some (redS s):=by
 have hg:Int.gcd (Int.gcd s.1 s.2.1) s.2.2≠0:=fun e=>h (Int.gcd_eq_zero_iff.1 e).2
 have g1:Int.gcd s.1 s.2.1≤1000000000:=by
  by_cases h0:s.1=0
  ·rw [h0,Int.gcd_zero_left];exact h2
  ·exact Nat.le_trans (Int.gcd_le_natAbs_left _ h0) h1
 have g2:Int.gcd (Int.gcd s.1 s.2.1) s.2.2≤1000000000:=Nat.le_trans (Int.gcd_le_natAbs_right _ h) h3
 obtain ⟨k,hk⟩:∃ k:Int,k=if s.2.2<0 then -(Int.gcd (Int.gcd s.1 s.2.1) s.2.2:Int) else Int.gcd (Int.gcd s.1 s.2.1) s.2.2:=⟨_,rfl⟩
 have hka:k.natAbs=Int.gcd (Int.gcd s.1 s.2.1) s.2.2:=by rw [hk];split<;>omega
 have hk0:k≠0:=by omega
 have d3:k ∣ s.2.2:=by rw [← Int.natAbs_dvd,hka];exact Int.gcd_dvd_right _ _
 have d12:k ∣ (Int.gcd s.1 s.2.1:Int):=by rw [← Int.natAbs_dvd,hka];exact Int.gcd_dvd_left _ _
 have d1:k ∣ s.1:=Int.dvd_trans d12 (Int.gcd_dvd_left _ _)
 have d2:k ∣ s.2.1:=Int.dvd_trans d12 (Int.gcd_dvd_right _ _)
 have er:redS s=(s.1 / k,s.2.1 / k,s.2.2 / k):=by unfold redS;dsimp only;rw [← hk]
 unfold m72
 rw [gcd_ok h1 h2,Option.bind_some,gcd_ok (by omega) h3,Option.bind_some]
 refine bind_of (x:=k) ?_ ?_
 ·by_cases hn:s.2.2<0
  ·rw [ltI hn,cond_true,hk,if_pos hn,show ∀ z:Int,negM z=-z from fun _=>rfl,wrap_in (by omega) (by omega)]
  ·rw [geI (by omega),cond_false,hk,if_neg hn]
 ·rw [div_exact hk0 d1 h1,Option.bind_some,div_exact hk0 d2 h2,Option.bind_some,div_exact hk0 d3 h3,Option.bind_some,er]
def lineF (ax ay bx by_:Int):Spt:=(-(by_-ay),bx-ax,(by_-ay)*ax-(bx-ax)*ay)
structure Nod (ax ay bx by_:Int):Prop where
 a0:0≤ax
 a1:ax≤6
 b0:0≤ay
 b1:ay≤6
 d0:-1≤bx-ax
 d1:bx-ax≤1
 e0:-1≤by_-ay
 e1:by_-ay≤1
def Bx (s:Spt):Prop:=0≤s.1∧s.1≤72∧0≤s.2.1∧s.2.1≤72∧0<s.2.2∧s.2.2≤12
theorem unit_mul {u z B:Int} (h0:-1≤u) (h1:u≤1) (hz:-B≤z∧z≤B):-B≤u*z∧u*z≤B:=by
 rcases (show u=-1∨u=0∨u=1 by omega) with rfl | rfl | rfl
 ·rw [Int.neg_mul,Int.one_mul];omega
 ·rw [Int.zero_mul];omega
 ·rw [Int.one_mul];omega
theorem lev_lnF (ax ay bx by_:Int) (s:Spt):lev (lineF ax ay bx by_) s=(bx-ax)*(s.2.1-ay*s.2.2)-(by_-ay)*(s.1-ax*s.2.2):=by
 unfold lev lineF;grind
theorem left_bds {ax ay bx by_:Int} {s:Spt} (h:Nod ax ay bx by_) (hs:Bx s):(0≤ay*s.2.2∧ay*s.2.2≤72)∧(0≤ax*s.2.2∧ax*s.2.2≤72)∧(-72≤(bx-ax)*(s.2.1-ay*s.2.2)∧(bx-ax)*(s.2.1-ay*s.2.2)≤72)∧(-72≤(by_-ay)*(s.1-ax*s.2.2)∧(by_-ay)*(s.1-ax*s.2.2)≤72):=by
 obtain ⟨x0,x1,y0,y1,d0,d1⟩:=hs
 obtain ⟨a0,a1,b0,b1,c0,c1,e0,e1⟩:=h
 have p1:=prod_bd (a:=ay) (b:=s.2.2) (A:=6) (B:=12) b0 b1 (by omega) d1
 have p2:=prod_bd (a:=ax) (b:=s.2.2) (A:=6) (B:=12) a0 a1 (by omega) d1
 exact ⟨by omega,by omega,unit_mul c0 c1 (by omega),unit_mul e0 e1 (by omega)⟩
theorem lev_bd {ax ay bx by_:Int} {s:Spt} (h:Nod ax ay bx by_) (hs:Bx s):-144≤lev (lineF ax ay bx by_) s∧lev (lineF ax ay bx by_) s≤144:=by
 obtain ⟨_,_,c,d⟩:=left_bds h hs
 rw [lev_lnF];omega
theorem left_ok {ax ay bx by_:Int} {s:Spt} (h:Nod ax ay bx by_) (hs:Bx s):m48 ((ax,ay),(bx,by_),s.1,s.2.1,s.2.2)=some (lev (lineF ax ay bx by_) s):=by
 obtain ⟨p1,p2,p3,p4⟩:=left_bds h hs
 obtain ⟨x0,x1,y0,y1,d0,d1⟩:=hs
 obtain ⟨a0,a1,b0,b1,c0,c1,e0,e1⟩:=h
 unfold m48
 dsimp only
 rw [wrap_in (n:=bx-ax) (by omega) (by omega),wrap_in (n:=ay*s.2.2) (by omega) (by omega),wrap_in (n:=s.2.1-_) (by omega) (by omega),wrap_in (n:=(bx-ax)*_) (by omega) (by omega),wrap_in (n:=by_-ay) (by omega) (by omega),wrap_in (n:=ax*s.2.2) (by omega) (by omega),wrap_in (n:=s.1-_) (by omega) (by omega),wrap_in (n:=(by_-ay)*_) (by omega) (by omega),wrap_in (by omega) (by omega),lev_lnF]
noncomputable def adE (o:List Spt) (r:Spt):Option (List Spt):=(bif PE.notM (eqM (lenM o) 0) then chkM (wrap .i64 (lenM o-1)) (lenM o) else some ()).bind fun r_10=>(bif PE.notM (eqM (lenM o) 0) then idxM o (wrap .i64 (lenM o-1)) else some (0,0,0)).bind fun r_11 =>
 bif PE.orM (eqM (lenM o) 0) (PE.notM (PE.andM (eqM r_11.1 r.1) (PE.andM (eqM r_11.2.1 r.2.1) (eqM r_11.2.2 r.2.2)))) then (appM (nat_lit 24) o [(r.1,r.2.1,r.2.2)]).bind fun r=>some r else some o
noncomputable def clipB (ax ay bx by_:Int) (l:List Spt) (s_2:Int×List Spt):Option ((Int×List Spt)⊕List Spt):=bif ltM s_2.1 (lenM l) then ((chkM s_2.1 (lenM l)).bind fun r_3=>(idxM l s_2.1).bind fun r_4=>(remM (wrap .i64 (s_2.1+1)) (lenM l)).bind fun r_5=>(chkM r_5 (lenM l)).bind fun r_6=>(idxM l r_5).bind fun r_7 =>
 (m48 ((ax,ay),(bx,by_),r_4.1,r_4.2.1,r_4.2.2)).bind fun r_8=>(m48 ((ax,ay),(bx,by_),r_7.1,r_7.2.1,r_7.2.2)).bind fun r_9=>(bif leM 0 r_8 then (adE s_2.2 r_4).bind fun (ov:List (Int×Int×Int))=>some ov else some s_2.2).bind fun o_1 =>
 bif PE.orM (PE.andM (ltM 0 r_8) (ltM r_9 0)) (PE.andM (ltM r_8 0) (ltM 0 r_9)) then (m72 (wrap .i64 (wrap .i64 (r_4.1*r_9)-wrap .i64 (r_7.1*r_8)),wrap .i64 (wrap .i64 (r_4.2.1*r_9)-wrap .i64 (r_7.2.1*r_8)),wrap .i64 (wrap .i64 (r_4.2.2*r_9)-wrap .i64 (r_7.2.2*r_8)))).bind fun r_10 =>
 (adE o_1 r_10).bind fun (ov:List (Int×Int×Int))=>some ov else some o_1).bind fun o=>some (Sum.inl (wrap .i64 (s_2.1+1),o)) else some (Sum.inr s_2.2)
noncomputable def clipE (ax ay bx by_:Int) (l:List Spt):Option (List Spt):=loopM (clipB ax ay bx by_ l) (0,[])
theorem adE_ok {o:List Spt} {r:Spt} (hl:o.length≤1000):adE o r=some (adS o r):=by
 have happ:appM (nat_lit 24) o [(r.1,r.2.1,r.2.2)]=some (o++[r]):=appM_of (by show (o.length+1)*24≤_;omega)
 unfold adE
 by_cases h0:o=[]
 ·subst h0
  rw [show eqM (lenM ([]:List Spt)) 0=true from rfl,notT,cond_false,Option.bind_some,cond_false,Option.bind_some,show PE.orM true _=true from rfl,cond_true,happ];rfl
 ·have hp:=List.length_pos_iff.2 h0
  have hz:=getD_last3 hp
  have hidx:idxM o ((o.length:Int)-1)=some (o.getD (o.length-1) z3):=by
   rw [show (o.length:Int)-1=((o.length-1:Nat):Int) by omega,idxM_nat,← List.getLast?_eq_getElem?,hz]
  rw [lenL,neI (by omega),notF,cond_true,wrap_in (n:=(o.length:Int)-1) (by omega) (by omega),chkM_of (by omega) (by omega),Option.bind_some,cond_true,hidx,Option.bind_some,orF]
  unfold adS
  rw [hz]
  generalize o.getD (o.length-1) z3=q at *
  by_cases hq:q=r
  ·subst hq
   rw [if_pos rfl,eqI rfl,eqI rfl,eqI rfl,andT,andT,notT,cond_false]
  ·rw [if_neg (fun e=>hq (Option.some.inj e))]
   have:PE.andM (eqM q.1 r.1) (PE.andM (eqM q.2.1 r.2.1) (eqM q.2.2 r.2.2))=false:=by
    unfold PE.andM eqM
    simp only [Bool.and_eq_false_iff,decide_eq_false_iff_not]
    refine Decidable.byContradiction fun hn=>hq ?_
    simp only [not_or,Decidable.not_not] at hn
    exact Prod.ext hn.1 (Prod.ext hn.2.1 hn.2.2)
   rw [this,notF,cond_true,happ];rfl
theorem bif_or (a b c d:Int):PE.orM (PE.andM (ltM 0 a) (ltM b 0)) (PE.andM (ltM a 0) (ltM 0 b))=decide ((0<a∧b<0)∨(a<0∧0<b)):=by
 by_cases h:(0<a∧b<0)∨(a<0∧0<b)
 ·rw [decide_eq_true h]
  rcases h with ⟨h1,h2⟩ | ⟨h1,h2⟩
  ·rw [ltI h1,ltI h2];rfl
  ·rw [ltI h1,ltI h2];cases PE.andM (ltM 0 a) (ltM b 0)<;>rfl
 ·rw [decide_eq_false h]
  by_cases h1:0<a
  ·rw [ltI h1,geI (a:=b) (by omega),geI (a:=a) (by omega)];rfl
  ·rw [geI (a:=0) (b:=a) (by omega)]
   by_cases h2:a<0
   ·rw [ltI h2,geI (a:=0) (by omega)];cases ltM b 0<;>rfl
   ·rw [geI (a:=a) (by omega)];cases ltM b 0<;>cases ltM 0 b<;>rfl
theorem crS_lits {h t:Int} {s n:Spt} (hs:Bx s) (hn:Bx n) (h0:-144≤h∧h≤144) (t0:-144≤t∧t≤144) :
  (-20736≤s.1*t-n.1*h∧s.1*t-n.1*h≤20736)∧(-20736≤s.2.1*t-n.2.1*h∧s.2.1*t-n.2.1*h≤20736)∧(-20736≤s.2.2*t-n.2.2*h∧s.2.2*t-n.2.2*h≤20736) ∧
  (-10368≤s.1*t∧s.1*t≤10368)∧(-10368≤n.1*h∧n.1*h≤10368)∧(-10368≤s.2.1*t∧s.2.1*t≤10368)∧(-10368≤n.2.1*h∧n.2.1*h≤10368)∧(-10368≤s.2.2*t∧s.2.2*t≤10368)∧(-10368≤n.2.2*h∧n.2.2*h≤10368):=by
 have key:∀ {x z:Int},0≤x→x≤72→-144≤z∧z≤144→-10368≤x*z∧x*z≤10368:=fun {x z} h0 h1 hz=>by
  have a:=Int.mul_le_mul_of_nonneg_left hz.2 h0
  have b:=Int.mul_le_mul_of_nonneg_left hz.1 h0
  omega
 obtain ⟨x0,x1,y0,y1,d0,d1⟩:=hs
 obtain ⟨a0,a1,b0,b1,c0,c1⟩:=hn
 have k1:=key x0 x1 t0
 have k2:=key y0 y1 t0
 have k3:=key (show 0≤s.2.2 by omega) (by omega) t0
 have k4:=key a0 a1 h0
 have k5:=key b0 b1 h0
 have k6:=key (show 0≤n.2.2 by omega) (by omega) h0
 omega
theorem clipB_ok {ax ay bx by_:Int} {l:List Spt} (hN:Nod ax ay bx by_) (hl:∀ x∈l,Bx x) (hlen:l.length≤200) {k:Nat} (hk:k<l.length):clipB ax ay bx by_ l ((k:Int),clN (lineF ax ay bx by_) l k)=some (.inl ((k:Int)+1,clN (lineF ax ay bx by_) l (k+1))):=by
 have hn:(k+1) % l.length<l.length:=Nat.mod_lt _ (by omega)
 have b1:=hl _ (getD_mem3 hk)
 have b2:=hl _ (getD_mem3 hn)
 have g1:idxM l (k:Int)=some (l.getD k z3):=by rw [idxM_lt hk];simp [List.getD,hk]
 have g2:idxM l (((k+1) % l.length:Nat):Int)=some (l.getD ((k+1) % l.length) z3):=by rw [idxM_lt hn];simp [List.getD,hn]
 have hlen2:=clN_len (lineF ax ay bx by_) l k
 unfold clipB
 dsimp only
 rw [lenL,ltI (by omega),cond_true,chkM_of (by omega) (by omega),Option.bind_some,g1,Option.bind_some,wrap_in (n:=(k:Int)+1) (by omega) (by omega),remM_of (by omega) (by omega),Option.bind_some,show ((k:Int)+1) % (l.length:Int)=(((k+1) % l.length:Nat):Int) by rw [Int.natCast_emod];rfl,chkM_of (by omega) (by omega),Option.bind_some,g2,Option.bind_some]
 show _=some (Sum.inl ((k:Int)+1,clS (lineF ax ay bx by_) (clN (lineF ax ay bx by_) l k) (l.getD k z3) (l.getD ((k+1) % l.length) z3)))
 generalize clN (lineF ax ay bx by_) l k=o at *
 generalize l.getD k z3=s at *
 generalize l.getD ((k+1) % l.length) z3=n at *
 have e1:=lev_bd hN b1
 have e2:=lev_bd hN b2
 rw [left_ok hN b1,Option.bind_some,left_ok hN b2,Option.bind_some,bif_or _ _ 0 0]
 obtain ⟨m1,m2,m3,m4,m5,m6,m7,m8,m9⟩:=crS_lits b1 b2 e1 e2
 have hdn:=fun hx=>crS_mix (h:=lev (lineF ax ay bx by_) s) (t:=lev (lineF ax ay bx by_) n) b1.2.2.2.2.1 b2.2.2.2.2.1 hx
 unfold clS
 dsimp only
 generalize lev (lineF ax ay bx by_) s=u at *
 generalize lev (lineF ax ay bx by_) n=v at *
 refine bind_of (x:=if (0<u∧v<0)∨(u<0∧0<v) then adS (if 0≤u then adS o s else o) (crS u v s n) else (if 0≤u then adS o s else o)) ?_ rfl
 have hlen3:(if 0≤u then adS o s else o).length≤401:=by
  split
  ·exact Nat.le_trans (adS_len _ _) (by omega)
  ·omega
 refine bind_of (x:=if 0≤u then adS o s else o) ?_ ?_
 ·by_cases hu:0≤u
  ·rw [leI hu,cond_true,adE_ok (by omega),if_pos hu];rfl
  ·rw [gtI (by omega),cond_false,if_neg hu]
 ·by_cases hx:(0<u∧v<0)∨(u<0∧0<v)
  ·have hd0:s.2.2*v-n.2.2*u≠0:=by
    rcases hx with ⟨h1,h2⟩ | ⟨h1,h2⟩
    ·have:=Int.mul_neg_of_pos_of_neg b1.2.2.2.2.1 h2
     have:=Int.mul_pos b2.2.2.2.2.1 h1
     omega
    ·have:=Int.mul_pos b1.2.2.2.2.1 h2
     have:=Int.mul_neg_of_pos_of_neg b2.2.2.2.2.1 h1
     omega
   rw [decide_eq_true hx,cond_true,if_pos hx,wrap_in (n:=s.1*v) (by omega) (by omega),wrap_in (n:=n.1*u) (by omega) (by omega),wrap_in (n:=s.2.1*v) (by omega) (by omega),wrap_in (n:=n.2.1*u) (by omega) (by omega),wrap_in (n:=s.2.2*v) (by omega) (by omega),wrap_in (n:=n.2.2*u) (by omega) (by omega),wrap_in (n:=s.1*v-n.1*u) (by omega) (by omega),wrap_in (n:=s.2.1*v-n.2.1*u) (by omega) (by omega),wrap_in (n:=s.2.2*v-n.2.2*u) (by omega) (by omega),
    reduced_ok (s:=(s.1*v-n.1*u,s.2.1*v-n.2.1*u,s.2.2*v-n.2.2*u)) hd0 (by dsimp only;omega) (by dsimp only;omega) (by dsimp only;omega),Option.bind_some,adE_ok (by omega)]
   rfl
  ·rw [decide_eq_false hx,cond_false,if_neg hx]
theorem clipE_ok {ax ay bx by_:Int} {l:List Spt} (hN:Nod ax ay bx by_) (hl:∀ x∈l,Bx x) (hlen:l.length≤200):clipE ax ay bx by_ l=some (clR (lineF ax ay bx by_) l):=by
 refine count_loop (fun k=>clN (lineF ax ay bx by_) l k) l.length (fun k hk=>clipB_ok hN hl hlen hk) ?_
 unfold clipB
 dsimp only
 rw [lenL,geI (by omega),cond_false];rfl
end Go.Proofs.YtechphmljdgoaaaGreatDoor
namespace Go.Num
open Go.Lib
def vl:List Int→Int
 | []=>0
 | d::l=>d+10000*vl l
def okd (l:List Int):Prop:=∀ d∈l,0≤d∧d≤9999
def grp (n:Nat):List Int:=if h:n=0 then [] else ((n % 10000:Nat):Int)::grp (n / 10000)
termination_by n
decreasing_by omega
theorem grp_zero:grp 0=[]:=by rw [grp];simp
theorem grp_pos {n:Nat} (h:n≠0):grp n=((n % 10000:Nat):Int)::grp (n / 10000):=by rw [grp];simp [h]
theorem okd_nil:okd []:=fun _ h=>absurd h (by simp)
theorem okd_cons {d:Int} {l:List Int}:okd (d::l)↔(0≤d∧d≤9999)∧okd l:=by unfold okd;simp
theorem okd_app {l m:List Int}:okd (l++m)↔okd l∧okd m:=by
 unfold okd;constructor
 ·exact fun h=>⟨fun d hd=>h d (by simp [hd]),fun d hd=>h d (by simp [hd])⟩
 ·rintro ⟨h1,h2⟩ d hd;rcases List.mem_append.1 hd with h | h
  ·exact h1 d h
  ·exact h2 d h
theorem vl_nn:∀ {l:List Int},okd l→0≤vl l
 | [],_=>by simp [vl]
 | d::l,h=>by have:=vl_nn (okd_cons.1 h).2;have:=(okd_cons.1 h).1;simp only [vl];omega
theorem grp_okd (n:Nat):okd (grp n):=by
 induction n using Nat.strongRecOn with
 | _ n ih =>
  by_cases h:n=0
  ·subst h;rw [grp_zero];exact okd_nil
  ·rw [grp_pos h,okd_cons];exact ⟨by omega,ih _ (by omega)⟩
theorem vl_grp (n:Nat):vl (grp n)=n:=by
 induction n using Nat.strongRecOn with
 | _ n ih =>
  by_cases h:n=0
  ·subst h;rw [grp_zero];rfl
  ·rw [grp_pos h,vl,ih _ (by omega)];omega
theorem vl_app:∀ (l m:List Int),vl (l++m)=vl l+10000 ^ l.length*vl m
 | [],m=>by simp [vl]
 | d::l,m=>by
  simp only [List.cons_append,vl,vl_app l m,List.length_cons,Int.pow_succ]
  rw [Int.mul_add,← Int.add_assoc,← Int.mul_assoc,Int.mul_comm 10000 (10000 ^ l.length)]
theorem grp_of:∀ {l:List Int},okd l→(∀ h:l≠[],l.getLast h≠0)→grp (vl l).toNat=l
 | [],_,_=>by simp [vl,grp_zero]
 | d::l,h,hl=>by
  obtain ⟨h1,h2⟩:=okd_cons.1 h
  have hn:=vl_nn h2
  have hl':∀ h:l≠[],l.getLast h≠0:=fun h=>by have:=hl (by simp);rwa [List.getLast_cons h] at this
  have hz:(vl (d::l)).toNat≠0:=by
   intro h0
   have h3:vl l=0∧d=0:=by simp only [vl] at h0;omega
   cases l with
   | nil=>have:=hl (by simp);simp at this;exact this h3.2
   | cons e l=>have:=grp_of h2 hl';rw [h3.1] at this;simp [grp_zero] at this
  rw [grp_pos hz]
  have e1:(((vl (d::l)).toNat % 10000:Nat):Int)=d:=by simp only [vl];omega
  have e2:(vl (d::l)).toNat / 10000=(vl l).toNat:=by simp only [vl];omega
  rw [e1,e2,grp_of h2 hl']
theorem grp_drop:∀ (i n:Nat),(grp n).drop i=grp (n / 10000 ^ i)
 | 0,n=>by simp
 | i+1,n=>by
  by_cases h:n=0
  ·subst h;simp [grp_zero]
  ·rw [grp_pos h,List.drop_succ_cons,grp_drop i,Nat.pow_succ,Nat.div_div_eq_div_mul,Nat.mul_comm]
theorem grp_nil {n:Nat}:grp n=[]↔n=0:=by
 constructor
 ·intro h;by_cases h0:n=0
  ·exact h0
  ·rw [grp_pos h0] at h;simp at h
 ·rintro rfl;exact grp_zero
theorem grp_get (n i:Nat):(grp n).getD i 0=((n / 10000 ^ i % 10000:Nat):Int):=by
 have h:(grp n).getD i 0=((grp n).drop i).getD 0 0:=by simp
 rw [h,grp_drop]
 by_cases h0:n / 10000 ^ i=0
 ·rw [h0];simp [grp_zero]
 ·rw [grp_pos h0];rfl
theorem grp_len_le {n k:Nat} (h:n<10000 ^ k):(grp n).length≤k:=by
 have h1:(grp n).drop k=[]:=by rw [grp_drop,Nat.div_eq_of_lt h,grp_zero]
 exact List.drop_eq_nil_iff.1 h1
theorem grp_lt (n:Nat):n<10000 ^ (grp n).length:=by
 have h1:(grp n).drop (grp n).length=[]:=List.drop_length
 rw [grp_drop,grp_nil] at h1
 rcases Nat.div_eq_zero_iff.1 h1 with h | h
 ·have:=Nat.pow_pos (n:=(grp n).length) (show 0<10000 by decide);omega
 ·exact h
theorem grp_len_pow {n:Nat} (h:n≠0):10000 ^ ((grp n).length-1)≤n:=by
 by_cases h2:10000 ^ ((grp n).length-1)≤n
 ·exact h2
 ·have h3:=grp_len_le (Nat.lt_of_not_le h2)
  have:(grp n).length≠0:=fun e=>h (grp_nil.1 (List.length_eq_zero_iff.1 e))
  omega

def dgt (c:UInt8):Nat:=c.toNat-48
def isD (c:UInt8):Prop:=48≤c.toNat∧c.toNat≤57
def dv (l:List UInt8):Nat:=l.foldl (fun a c=>a*10+dgt c) 0
theorem dig_toNat {u:Nat} (h:u<10):(UInt8.ofNat (48+u)).toNat=48+u:=by
 rw [UInt8.toNat_ofNat'];omega
theorem isD_dig {u:Nat} (h:u<10):isD (UInt8.ofNat (48+u)):=by unfold isD;rw [dig_toNat h];omega
theorem dgt_dig {u:Nat} (h:u<10):dgt (UInt8.ofNat (48+u))=u:=by unfold dgt;rw [dig_toNat h];omega
theorem dv_app1 (l:List UInt8) (c:UInt8):dv (l++[c])=dv l*10+dgt c:=by unfold dv;rw [List.foldl_append];rfl
theorem dv_from:∀ (l:List UInt8) (a:Nat),l.foldl (fun a c=>a*10+dgt c) a=a*10 ^ l.length+dv l
 | [],a=>by simp [dv]
 | c::l,a=>by
  have e:dv (c::l)=dgt c*10 ^ l.length+dv l:=by
   show l.foldl (fun a c=>a*10+dgt c) (0*10+dgt c)=_
   rw [dv_from l,Nat.zero_mul,Nat.zero_add]
  rw [List.foldl_cons,dv_from l,e,List.length_cons,Nat.pow_succ,Nat.add_mul,Nat.mul_assoc,Nat.mul_comm 10,Nat.add_assoc]
theorem dv_app (l m:List UInt8):dv (l++m)=dv l*10 ^ m.length+dv m:=by unfold dv;rw [List.foldl_append,dv_from];rfl
theorem dec_step {n:Nat} (h:10≤n):decDigits n=decDigits (n / 10)++[UInt8.ofNat (48+n % 10)]:=by rw [decDigits,dif_neg (by omega)]
theorem dv_dec (n:Nat):dv (decDigits n)=n:=by
 induction n using Nat.strongRecOn with
 | _ n ih =>
  by_cases h:n<10
  ·rw [decDigits_one h];simp only [dv,List.foldl_cons,List.foldl_nil,dgt_dig h];omega
  ·rw [dec_step (by omega),dv_app1,ih _ (by omega),dgt_dig (by omega)];omega
theorem dec_isD (n:Nat):∀ c∈decDigits n,isD c:=by
 induction n using Nat.strongRecOn with
 | _ n ih =>
  by_cases h:n<10
  ·rw [decDigits_one h];intro c hc;rw [List.mem_singleton.1 hc];exact isD_dig h
  ·rw [dec_step (by omega)];intro c hc
   rcases List.mem_append.1 hc with h1 | h1
   ·exact ih _ (by omega) c h1
   ·rw [List.mem_singleton.1 h1];exact isD_dig (by omega)
theorem dec_ne (n:Nat):decDigits n≠[]:=by
 intro h;have:=decDigits_length n;rw [h] at this;have:=nDigits_pos n;simp at *;omega
theorem nDig_le:∀ (k n:Nat),n<10 ^ (k+1)→nDigits n≤k+1
 | 0,n,h=>by rw [nDigits_small (by simpa using h)];omega
 | k+1,n,h=>by
  by_cases h1:n<10
  ·rw [nDigits_small h1];omega
  ·rw [nDigits_big h1];have:=nDig_le k (n / 10) (by rw [Nat.pow_succ] at h;omega);omega
theorem dec_len_le {k n:Nat} (h:n<10 ^ (k+1)):(decDigits n).length≤k+1:=by rw [decDigits_length];exact nDig_le k n h
theorem dec_len_lt (n:Nat):n<10 ^ (decDigits n).length:=by rw [decDigits_length];exact lt_pow_nDigits n
theorem dec_head {n:Nat} (h:n≠0):∃ c l,decDigits n=c::l∧c≠48:=by
 induction n using Nat.strongRecOn with
 | _ n ih =>
  by_cases h1:n<10
  ·refine ⟨_,[],decDigits_one h1,fun e=>?_⟩
   have:=congrArg UInt8.toNat e;rw [dig_toNat h1] at this;simp at this;omega
  ·obtain ⟨c,l,e,hc⟩:=ih (n / 10) (by omega) (by omega)
   exact ⟨c,l++[UInt8.ofNat (48+n % 10)],by rw [dec_step (by omega),e];rfl,hc⟩
theorem dec_zero:decDigits 0=[48]:=by rw [decDigits_one (by omega)];rfl
def pad (m:Nat):List UInt8:=[UInt8.ofNat (48+m / 1000 % 10),UInt8.ofNat (48+m / 100 % 10),UInt8.ofNat (48+m / 10 % 10),UInt8.ofNat (48+m % 10)]
theorem dec_pad {n:Nat} (h:10000≤n):decDigits n=decDigits (n / 10000)++pad (n % 10000):=by
 rw [dec_step (by omega),dec_step (by omega),dec_step (by omega),dec_step (by omega)]
 simp only [List.append_assoc,List.cons_append,List.nil_append,pad]
 rw [show n / 10 / 10 / 10 / 10=n / 10000 by omega,show n / 10 / 10 / 10 % 10=n % 10000 / 1000 % 10 by omega,show n / 10 / 10 % 10=n % 10000 / 100 % 10 by omega,show n / 10 % 10=n % 10000 / 10 % 10 by omega,show n % 10000 % 10=n % 10 by omega]
theorem pad_dec {m:Nat} (h:m<10000):repeatL [48] (4-(decDigits m).length)++decDigits m=pad m:=by
 by_cases h1:m<10
 ·rw [decDigits_one h1];unfold pad
  rw [show m / 1000 % 10=0 by omega,show m / 100 % 10=0 by omega,show m / 10 % 10=0 by omega,show m % 10=m by omega];rfl
 ·by_cases h2:m<100
  ·rw [dec_step (by omega),decDigits_one (by omega)];unfold pad
   rw [show m / 1000 % 10=0 by omega,show m / 100 % 10=0 by omega,show m / 10 % 10=m / 10 by omega];rfl
  ·by_cases h3:m<1000
   ·rw [dec_step (by omega),dec_step (by omega),decDigits_one (by omega)];unfold pad
    rw [show m / 1000 % 10=0 by omega,show m / 100 % 10=m / 10 / 10 by omega];rfl
   ·rw [dec_step (by omega),dec_step (by omega),dec_step (by omega),decDigits_one (by omega)];unfold pad
    rw [show m / 1000 % 10=m / 10 / 10 / 10 by omega,show m / 100 % 10=m / 10 / 10 % 10 by omega];rfl
theorem dec_len4 {m:Nat} (h:m<10000):(decDigits m).length≤4:=dec_len_le (k:=3) (by omega)

theorem pu_dv:∀ (l:List UInt8) (a:Nat),(∀ c∈l,isD c)→a*10 ^ l.length+dv l<1844674407370955162→parseUint10 a l=.ok (a*10 ^ l.length+dv l)
 | [],a,_,_=>by simp [parseUint10,dv]
 | c::l,a,h,hb=>by
  have hc:isD c:=h c (by simp)
  have e:a*10 ^ (c::l).length+dv (c::l)=(a*10+(c.toNat-48))*10 ^ l.length+dv l:=by
   rw [show dv (c::l)=dgt c*10 ^ l.length+dv l from by have:=dv_app [c] l;simp only [List.singleton_append] at this;rw [this];simp [dv]]
   rw [List.length_cons,Nat.pow_succ,Nat.add_mul,← Nat.add_assoc,Nat.mul_assoc,Nat.mul_comm 10 (10 ^ l.length)];rfl
  have hp:1≤10 ^ l.length:=Nat.one_le_pow _ _ (by decide)
  rw [e] at hb ⊢
  have hs:a*10+(c.toNat-48)≤(a*10+(c.toNat-48))*10 ^ l.length:=Nat.le_mul_of_pos_right _ hp
  unfold parseUint10
  unfold isD at hc
  rw [if_pos hc,if_neg (by omega),if_neg (by omega)]
  exact pu_dv l _ (fun c hc=>h c (by simp [hc])) hb
theorem atoi_dv {l:List UInt8} (h0:l≠[]) (h:∀ c∈l,isD c) (hb:dv l<1844674407370955162):atoiAll l=.ok (dv l:Int):=by
 cases l with
 | nil=>exact absurd rfl h0
 | cons c l =>
  have hc:isD c:=h c (by simp)
  unfold isD at hc
  have e:parseMag (c::l)=.ok (dv (c::l)):=by
   unfold parseMag;rw [if_neg (by simp),pu_dv _ 0 h (by simpa using hb)];simp
  unfold atoiAll
  simp only
  rw [if_neg (by omega),e]
  simp only
  rw [if_neg (by omega),if_neg (by omega),if_neg (by omega)]
theorem dropW {α:Type} {p:α→Bool}:∀ {l:List α},(∀ c∈l,p c=true)→l.dropWhile p=[]
 | [],_=>rfl
 | c::l,h=>by rw [List.dropWhile_cons,if_pos (h c (by simp))];exact dropW fun c hc=>h c (by simp [hc])
theorem trim_dig {l cs:List UInt8} (h:∀ c∈l,cs.contains c=true):trimS l cs=[]:=by
 have e:trimRightS l cs=[]:=by
  unfold trimRightS
  rw [dropW fun c hc=>h c (List.mem_reverse.1 hc)];rfl
 unfold trimS;rw [e];rfl
def cyph:List UInt8:=[48,49,50,51,52,53,54,55,56,57]
theorem cyph_in {c:UInt8} (h:isD c):cyph.contains c=true:=by
 have h1:c=UInt8.ofNat c.toNat:=(UInt8.ofNat_toNat (x:=c)).symm
 unfold isD at h
 rw [h1]
 generalize c.toNat=k at h
 obtain ⟨h1,h2⟩:=h
 have:k=48∨k=49∨k=50∨k=51∨k=52∨k=53∨k=54∨k=55∨k=56∨k=57:=by omega
 rcases this with rfl | rfl | rfl | rfl | rfl | rfl | rfl | rfl | rfl | rfl<;>decide
theorem itoa_nn {n:Nat}:itoa (n:Int)=decDigits n:=by unfold itoa;rw [if_neg (by omega)];simp
theorem itoa_ng {n:Nat} (h:n≠0):itoa (-(n:Int))=45::decDigits n:=by unfold itoa;rw [if_pos (by omega)];simp
theorem pref_dec (n:Nat):trimPrefix (decDigits n) [45]=decDigits n:=by
 unfold trimPrefix hasPrefix
 have h:=dec_isD n
 cases e:decDigits n with
 | nil=>rfl
 | cons c l =>
  have hc:isD c:=h c (by rw [e];simp)
  have:(45==c)=false:=by
   rw [beq_eq_false_iff_ne];rintro rfl;revert hc;unfold isD;decide
  simp [List.isPrefixOf,this]
theorem pref_neg (l:List UInt8):trimPrefix (45::l) [45]=l:=by
 unfold trimPrefix hasPrefix;simp [List.isPrefixOf]
theorem pref_itoa (z:Int):trimPrefix (itoa z) [45]=decDigits z.natAbs:=by
 by_cases h:z<0
 ·obtain ⟨n,rfl⟩:∃ n:Nat,z=-(n:Int):=⟨z.natAbs,by omega⟩
  rw [itoa_ng (by omega),pref_neg];congr 1;omega
 ·obtain ⟨n,rfl⟩:∃ n:Nat,z=(n:Int):=⟨z.toNat,by omega⟩
  rw [itoa_nn,pref_dec];congr 1
theorem itoa_len (z:Int):(itoa z).length=(decDigits z.natAbs).length+if z<0 then 1 else 0:=by
 by_cases h:z<0
 ·obtain ⟨n,rfl⟩:∃ n:Nat,z=-(n:Int):=⟨z.natAbs,by omega⟩
  rw [itoa_ng (by omega),if_pos h,List.length_cons];congr 3;omega
 ·obtain ⟨n,rfl⟩:∃ n:Nat,z=(n:Int):=⟨z.toNat,by omega⟩
  rw [itoa_nn,if_neg h];rfl
theorem itoa_inj {x y:Int} (h:itoa x=itoa y):x=y:=by
 have e:decDigits x.natAbs=decDigits y.natAbs:=by rw [← pref_itoa,h,pref_itoa]
 have e2:x.natAbs=y.natAbs:=by rw [← dv_dec x.natAbs,e,dv_dec]
 have e3:=itoa_len x
 rw [h,itoa_len y,e] at e3
 split at e3<;>split at e3<;>omega
end Go.Num
namespace Go.Num
open Go Go.Lib Go.PE
def seqL:Nat→(Nat→Int)→List Int
 | 0,_=>[]
 | n+1,g=>g 0::seqL n fun i=>g (i+1)
theorem seqL_len:∀ n g,(seqL n g).length=n
 | 0,_=>rfl
 | n+1,g=>by show (seqL n _).length+1=n+1;rw [seqL_len]
theorem seqL_get:∀ (n:Nat) (g:Nat→Int) (i:Nat),i<n→(seqL n g).getD i 0=g i
 | n+1,g,0,_=>rfl
 | n+1,g,i+1,h=>by
  show (seqL n fun i=>g (i+1)).getD i 0=_
  exact seqL_get n _ i (by omega)
theorem vl_add:∀ (n:Nat) (f g:Nat→Int),vl (seqL n fun i=>f i+g i)=vl (seqL n f)+vl (seqL n g)
 | 0,_,_=>rfl
 | n+1,f,g=>by
  show f 0+g 0+10000*vl (seqL n fun i=>f (i+1)+g (i+1))=f 0+10000*vl (seqL n fun i=>f (i+1))+(g 0+10000*vl (seqL n fun i=>g (i+1)))
  rw [vl_add n (fun i=>f (i+1)) fun i=>g (i+1)];omega
theorem vl_sub:∀ (n:Nat) (f g:Nat→Int),vl (seqL n fun i=>f i-g i)=vl (seqL n f)-vl (seqL n g)
 | 0,_,_=>rfl
 | n+1,f,g=>by
  show f 0-g 0+10000*vl (seqL n fun i=>f (i+1)-g (i+1))=f 0+10000*vl (seqL n fun i=>f (i+1))-(g 0+10000*vl (seqL n fun i=>g (i+1)))
  rw [vl_sub n (fun i=>f (i+1)) fun i=>g (i+1)];omega
theorem vl_mul (c:Int):∀ (n:Nat) (f:Nat→Int),vl (seqL n fun i=>f i*c)=vl (seqL n f)*c
 | 0,_=>by show (0:Int)=0*c;rw [Int.zero_mul]
 | n+1,f=>by
  show f 0*c+10000*vl (seqL n fun i=>f (i+1)*c)=(f 0+10000*vl (seqL n fun i=>f (i+1)))*c
  rw [vl_mul c n fun i=>f (i+1),Int.add_mul,Int.mul_assoc]
theorem vl_zero:∀ n,vl (seqL n fun _=>0)=0
 | 0=>rfl
 | n+1=>by show 0+10000*vl (seqL n fun _=>0)=0;rw [vl_zero n];rfl
theorem vl_of:∀ (n:Nat) (l:List Int),l.length≤n→vl (seqL n fun i=>l.getD i 0)=vl l
 | 0,[],_=>rfl
 | n+1,[],_=>by
  have:(fun i=>([]:List Int).getD i 0)=fun _=>0:=by funext i;simp
  rw [this,vl_zero];rfl
 | n+1,d::l,h=>by
  show d+10000*vl (seqL n fun i=>l.getD i 0)=d+10000*vl l
  rw [vl_of n l (by simpa using h)]
theorem getD_in {α:Type} (l:List α) (d:α) {i:Nat} (h:i<l.length):l.getD i d=l[i]:=by rw [List.getD_eq_getElem?_getD,List.getElem?_eq_getElem h];rfl
theorem getD_out {α:Type} (l:List α) (d:α) {i:Nat} (h:l.length≤i):l.getD i d=d:=by rw [List.getD_eq_getElem?_getD,List.getElem?_eq_none h];rfl
theorem vl_drop (l:List Int) (i:Nat):vl (l.drop i)=l.getD i 0+10000*vl (l.drop (i+1)):=by
 by_cases h:i<l.length
 ·rw [List.drop_eq_getElem_cons h,vl,getD_in _ _ h]
 ·rw [List.drop_eq_nil_of_le (by omega),List.drop_eq_nil_of_le (by omega),getD_out _ _ (by omega)];rfl
theorem pow_pos10 (k:Nat):(0:Int)<10000 ^ k:=Int.pow_pos (by omega)
theorem vl_lt:∀ {l:List Int},okd l→vl l<10000 ^ l.length
 | [],_=>by show (0:Int)<1;omega
 | d::l,h=>by
  have:=vl_lt (okd_cons.1 h).2
  have:=(okd_cons.1 h).1
  rw [List.length_cons,Int.pow_succ]
  simp only [vl]
  omega
theorem vl_snoc (l:List Int) (d:Int):vl (l++[d])=vl l+10000 ^ l.length*d:=by
 rw [vl_app];simp [vl]
theorem okd_get {l:List Int} (h:okd l) (i:Nat):0≤l.getD i 0∧l.getD i 0≤9999:=by
 by_cases hi:i<l.length
 ·rw [getD_in _ _ hi];exact h _ (List.getElem_mem hi)
 ·rw [getD_out _ _ (by omega)];omega
theorem carry_loop {body:Int×Int×List Int→Option ((Int×Int×List Int)⊕List Int)} {dl:List Int} (hd:∀ i,-9999≤dl.getD i 0∧dl.getD i 0≤99980001) (h0:0≤vl dl)
  (hb:∀ (i:Nat) (c:Int) (out:List Int),out.length=i→i≤dl.length→-1≤c→c≤9999→(i<dl.length∨c≠0)→body (c,(i:Int),out)=some (.inl ((dl.getD i 0+c) / 10000,(i:Int)+1,out++[(dl.getD i 0+c) % 10000])))
  (he:∀ (i:Nat) (out:List Int),dl.length≤i→body (0,(i:Int),out)=some (.inr out)):Ans (loopM body (0,0,[])) fun out=>okd out∧vl out=vl dl∧out.length≤dl.length+1:=by
 refine Ans.loop (fun k s=>s.2.1=(k:Int)∧s.2.2.length=k∧okd s.2.2∧(-1≤s.1∧s.1≤9999)∧(dl.length<k→s.1=0)∧vl s.2.2+10000 ^ k*(s.1+vl (dl.drop k))=vl dl) (dl.length+1)
  ⟨rfl,rfl,okd_nil,⟨by decide,by decide⟩,fun _=>rfl,by simp [vl]⟩ ?_
 rintro k ⟨c,i,out⟩ hk ⟨h1,h2,h3,h4,h5,h6⟩
 dsimp only at h1 h2 h3 h4 h5 h6
 subst h1
 have hout:=vl_lt h3
 rw [h2] at hout
 have hpk:=pow_pos10 k
 by_cases hend:dl.length≤k∧c=0
 ·obtain ⟨e1,e2⟩:=hend
  subst e2
  refine .of (he k out e1) ⟨h3,?_,by omega⟩
  rw [List.drop_eq_nil_of_le e1] at h6
  simp [vl] at h6
  exact h6
 ·have hkl:k≤dl.length:=by
   by_cases h:dl.length<k
   ·exact absurd ⟨by omega,h5 h⟩ hend
   ·omega
  have hD:=hd k
  refine .of (hb k c out h2 hkl h4.1 h4.2 (by omega)) ⟨by omega,rfl,by simp [h2],okd_app.2 ⟨h3,okd_cons.2 ⟨by omega,okd_nil⟩⟩,by dsimp only;omega,fun hl=>?_,?_⟩
  ·have hk2:k=dl.length:=by omega
   have e0:dl.getD k 0=0:=getD_out _ _ (by omega)
   dsimp only
   rw [e0,Int.zero_add]
   by_cases hc:0≤c
   ·omega
   ·exfalso
    rw [List.drop_eq_nil_of_le (by omega)] at h6
    have hc1:c=-1:=by omega
    rw [hc1] at h6
    simp only [vl] at h6
    omega
  ·dsimp only
   rw [vl_snoc,h2,← h6,vl_drop dl k,Int.pow_succ,Int.mul_assoc,Int.add_assoc,← Int.mul_add]
   congr 2
   have:=Int.emod_add_mul_ediv (dl.getD k 0+c) 10000
   omega
theorem step_digit {v:Int} (h:-10000≤v) (h2:v≤100000000):(bif ltM v 0 then some ((-1:Int),IntKind.wrap .i64 (v+10000)) else bif leM 10000 v then (divM .i64 v 10000).bind fun r_3=>(remM v 10000).bind fun r=>some (r_3,r) else some (0,v))=some (v / 10000,v % 10000):=by
 by_cases h1:v<0
 ·rw [ltI h1,cond_true,wrap_in (by omega) (by omega),show v / 10000=-1 by omega,show v % 10000=v+10000 by omega]
 ·rw [geI (by omega),cond_false]
  by_cases h3:10000≤v
  ·rw [leI h3,cond_true,divM_pos (by omega),remM_of (by omega) (by omega),Int.tdiv_eq_ediv_of_nonneg (by omega),wrap_in (by omega) (by omega)];rfl
  ·rw [gtI (by omega),cond_false,show v / 10000=0 by omega,show v % 10000=v by omega]
theorem dv_lt:∀ {l:List UInt8},(∀ c∈l,isD c)→dv l<10 ^ l.length
 | [],_=>by decide
 | c::l,h=>by
  have:=dv_lt fun c hc=>h c (List.mem_cons_of_mem _ hc)
  have hc:isD c:=h c (by simp)
  unfold isD at hc
  have e:dv (c::l)=dgt c*10 ^ l.length+dv l:=by have:=dv_app [c] l;simp only [List.singleton_append] at this;rw [this];simp [dv]
  have h9:dgt c*10 ^ l.length≤9*10 ^ l.length:=Nat.mul_le_mul_right _ (by unfold dgt;omega)
  rw [e,List.length_cons,Nat.pow_succ]
  omega
end Go.Num
namespace Go.Proofs.YtechphmljdgoaaaGreatDoor
open Go Go.Lib Go.Abs Go.PE Go.Num
theorem itoa_zero:itoa 0=[48]:=by rw [show (0:Int)=((0:Nat):Int) from rfl,itoa_nn,dec_zero]
theorem itoa_eq0 {z:Int}:itoa z=[48]↔z=0:=⟨fun h=>itoa_inj (h.trans itoa_zero.symm),fun h=>h▸itoa_zero⟩
theorem eqsT {x y:List UInt8} (h:x=y):eqsM x y=true:=decide_eq_true h
theorem eqsF {x y:List UInt8} (h:x≠y):eqsM x y=false:=decide_eq_false h
theorem lenI {α:Type} (l:List α):lenM l=(l.length:Int):=rfl
theorem snoc_of {α:Type} {l:List α} (h:l≠[]):∃ t d,l=t++[d]:=⟨l.dropLast,l.getLast h,(List.dropLast_concat_getLast h).symm⟩
theorem strip_ok {l:List Int} (h:okd l) (hl:l.length≤100000):m113 l=some (grp (vl l).toNat):=by
 unfold m113
 refine bind_of (loopM_is (r:=grp (vl l).toNat) (fun k s=>okd s∧vl s=vl l∧s.length+k=l.length) l.length ⟨h,rfl,by omega⟩ ?_) rfl
 rintro k s hk ⟨h1,h2,h3⟩
 by_cases h0:s=[]
 ·subst h0
  right
  have e:vl l=0:=h2.symm
  rw [e,show (0:Int).toNat=0 from rfl,grp_zero];rfl
 ·obtain ⟨t,d,rfl⟩:=snoc_of h0
  have hlen:lenM (t++[d])=(t.length:Int)+1:=by rw [lenI];simp
  have hlen2:(t++[d]).length=t.length+1:=by simp
  have e:IntKind.wrap .i64 (lenM (t++[d])-1)=(t.length:Int):=by rw [hlen,wrap_in (by omega) (by omega)];omega
  have e1:idxM (t++[d]) (t.length:Int)=some d:=by rw [idxM_nat];simp
  have e2:sliceM (t++[d]) 0 (t.length:Int)=some t:=by rw [sliceM_of (by omega) (by omega) (by rw [hlen2];omega)];simp
  rw [e,ltI (show (0:Int)<lenM (t++[d]) by rw [hlen];omega),cond_true,e1,Option.bind_some,andT]
  by_cases hd:d=0
  ·left
   refine ⟨t,by omega,by rw [eqI hd,cond_true,e2];rfl,(okd_app.1 h1).1,?_,by omega⟩
   rw [← h2,vl_snoc,hd];omega
  ·right
   rw [neI hd,cond_false,← h2,grp_of h1 fun _=>by simpa using hd]
theorem ivalid_ok {z:Int} (h:z.natAbs<10 ^ 200):m110 (itoa z)=some true:=by
 unfold m110
 have e0:prefM (itoa z) [(45:UInt8)]=decDigits z.natAbs:=pref_itoa z
 have hl:(decDigits z.natAbs).length≤200:=dec_len_le (k:=199) h
 have e3:trimM (decDigits z.natAbs) [(48:UInt8),(49:UInt8),(50:UInt8),(51:UInt8),(52:UInt8),(53:UInt8),(54:UInt8),(55:UInt8),(56:UInt8),(57:UInt8)]=some []:=by
  have e:trimM (decDigits z.natAbs) cyph=some (trimS (decDigits z.natAbs) cyph):=rfl
  rw [trim_dig fun c hc=>cyph_in (dec_isD _ c hc)] at e
  exact e
 rw [e0,eqsF (dec_ne _),geI (show lenM (decDigits z.natAbs)≤200 by rw [lenI];omega),orF,notF,cond_true,e3,Option.bind_some,orF,eqsT rfl,notT,cond_false]
 by_cases hz:z=0
 ·subst hz;rw [itoa_zero];rfl
 ·obtain ⟨c,l,e,hc⟩:=dec_head (n:=z.natAbs) (by omega)
  rw [eqsF fun e=>hz (itoa_eq0.1 e),notF,cond_true,e]
  have e4:byteM (c::l) 0=some (c.toNat:Int):=rfl
  rw [e4,Option.bind_some,orF,neI fun h=>hc (UInt8.toNat_inj.1 (by rw [show (48:UInt8).toNat=48 from rfl];omega))];rfl
theorem atoi_ok {l:List UInt8} (h0:l≠[]) (h:∀ c∈l,isD c) (hl:l.length≤4):atoiM l=some (dv l:Int):=by
 have hd:=dv_lt h
 have hp:10 ^ l.length≤10 ^ 4:=Nat.pow_le_pow_right (by omega) hl
 unfold atoiM
 rw [atoi_dv h0 h (by omega),decide_eq_true (show l.length≤9223372036854775806 by omega)]
 dsimp only
 rw [decide_eq_true (show (-9223372036854775808:Int)≤dv l by omega),decide_eq_true (show (dv l:Int)≤9223372036854775807 by omega)]
theorem parse_ok {z:Int} (h:z.natAbs<10 ^ 200):m111 (itoa z)=some (decide (z<0),grp z.natAbs):=by
 unfold m111
 have e0:prefM (itoa z) [(45:UInt8)]=decDigits z.natAbs:=pref_itoa z
 have hl:(decDigits z.natAbs).length≤200:=dec_len_le (k:=199) h
 have hn:ltM (lenM (decDigits z.natAbs)) (lenM (itoa z))=decide (z<0):=by
  have:=itoa_len z
  by_cases hz:z<0
  ·rw [if_pos hz] at this;rw [decide_eq_true hz];exact ltI (by rw [lenI,lenI];omega)
  ·rw [if_neg hz] at this;rw [decide_eq_false hz];exact geI (by rw [lenI,lenI];omega)
 dsimp only
 rw [e0,hn]
 refine Ans.is (Ans.bind (P:=fun o=>o.1=decide (z<0)∧okd o.2∧vl o.2=z.natAbs∧o.2.length≤50) (Ans.loop (fun k s=>(∀ c∈s.1,isD c)∧s.1.length≤4*(50-k)∧s.2.1=decide (z<0)∧okd s.2.2∧s.2.2.length=k∧vl s.2.2+10000 ^ k*(dv s.1:Int)=z.natAbs) 50 ⟨dec_isD _,by omega,rfl,okd_nil,rfl,by rw [dv_dec];simp [vl]⟩ ?_) ?_)
 ·rintro k ⟨ds,ng,sz⟩ hk ⟨h1,h2,h3,h4,h5,h6⟩
  dsimp only at h1 h2 h3 h4 h5 h6
  dsimp only
  by_cases hd:ds=[]
  ·subst hd
   refine Ans.of (r:=.inr (ng,sz)) (by rfl) ?_
   refine show ng=decide (z<0)∧okd sz∧vl sz=z.natAbs∧sz.length≤50 from ⟨h3,h4,?_,by omega⟩
   rw [← h6];simp [dv]
  ·have hlp:0<ds.length:=List.length_pos_iff.2 hd
   have hf:max (0:Int) (IntKind.wrap .i64 (lenM ds-4))=((ds.length-4:Nat):Int):=by
    rw [wrap_in (by rw [lenI];omega) (by rw [lenI];omega),lenI];omega
   have e1:sliceM ds ((ds.length-4:Nat):Int) (lenM ds)=some (ds.drop (ds.length-4)):=by
    rw [sliceM_of (by omega) (by show ((ds.length-4:Nat):Int)≤(ds.length:Int);omega) (Int.le_refl _)]
    congr 1
    rw [List.take_of_length_le (by show ds.length≤(ds.length:Int).toNat;omega)];rfl
   have e2:sliceM ds 0 ((ds.length-4:Nat):Int)=some (ds.take (ds.length-4)):=by
    rw [sliceM_of (by omega) (by omega) (by omega)];rfl
   have hdl:(ds.drop (ds.length-4)).length=min 4 ds.length:=by rw [List.length_drop];omega
   have e3:atoiM (ds.drop (ds.length-4))=some (dv (ds.drop (ds.length-4)):Int):=atoi_ok (fun e=>by rw [e] at hdl;simp at hdl;omega) (fun c hc=>h1 c (List.mem_of_mem_drop hc)) (by omega)
   have e4:appM (nat_lit 8) sz [(dv (ds.drop (ds.length-4)):Int)]=some (sz++[(dv (ds.drop (ds.length-4)):Int)]):=appM_of (by simp;omega)
   have hlt:=dv_lt (l:=ds.drop (ds.length-4)) fun c hc=>h1 c (List.mem_of_mem_drop hc)
   have hpw:10 ^ (ds.drop (ds.length-4)).length≤10 ^ 4:=Nat.pow_le_pow_right (by omega) (by omega)
   have hv:(dv ds:Int)=dv (ds.drop (ds.length-4))+10000*dv (ds.take (ds.length-4)):=by
    have:=dv_app (ds.take (ds.length-4)) (ds.drop (ds.length-4))
    rw [List.take_append_drop] at this
    by_cases h4:4≤ds.length
    ·rw [hdl,show min 4 ds.length=4 by omega] at this;omega
    ·rw [show ds.length-4=0 by omega,List.take_zero,List.drop_zero] at this ⊢;simp [dv] at this ⊢
   refine Ans.of (r:=.inl (ds.take (ds.length-4),ng,sz++[(dv (ds.drop (ds.length-4)):Int)])) ?_ ?_
   ·rw [hf,e1,e2,Option.bind_some,e3,Option.bind_some,e4,Option.bind_some,Option.bind_some,ltI (by rw [lenI];omega),cond_true]
   ·refine show k<50∧(∀ c∈ds.take (ds.length-4),isD c)∧(ds.take (ds.length-4)).length≤4*(50-(k+1))∧ng=decide (z<0)∧okd (sz++[(dv (ds.drop (ds.length-4)):Int)])∧(sz++[(dv (ds.drop (ds.length-4)):Int)]).length=k+1∧vl (sz++[(dv (ds.drop (ds.length-4)):Int)])+10000 ^ (k+1)*(dv (ds.take (ds.length-4)):Int)=z.natAbs from ⟨by omega,fun c hc=>h1 c (List.mem_of_mem_take hc),by rw [List.length_take];omega,h3,okd_app.2 ⟨h4,okd_cons.2 ⟨by omega,okd_nil⟩⟩,by simp [h5],?_⟩
    rw [vl_snoc,h5,← h6,hv,Int.pow_succ,Int.mul_add,Int.mul_assoc];omega
 ·rintro ⟨ng,sz⟩ ⟨h1,h2,h3,h4⟩
  dsimp only at h1 h2 h3 h4
  have e:=strip_ok h2 (by omega)
  rw [h3] at e
  exact .of (r:=(ng,grp z.natAbs)) (by dsimp only;rw [e];rfl) (by rw [h1])
theorem both_ok {x y:Int} (hx:x.natAbs<10 ^ 200) (hy:y.natAbs<10 ^ 200):m82 (itoa x,itoa y)=some ((decide (x<0),grp x.natAbs),(decide (y<0),grp y.natAbs),true):=by
 unfold m82
 dsimp only
 rw [ivalid_ok hx,Option.bind_some,notT,notF,cond_true,ivalid_ok hy,Option.bind_some,notT,orF,cond_false,parse_ok hx,Option.bind_some,parse_ok hy];rfl
end Go.Proofs.YtechphmljdgoaaaGreatDoor
namespace Go.Proofs.YtechphmljdgoaaaGreatDoor
open Go Go.Lib Go.Abs Go.PE Go.Num
theorem catB_of {x y:List UInt8} (h:x.length+y.length≤140737488355328):catB x y=some (x++y):=by unfold catB;rw [Nat.ble_eq_true_of_le h]
theorem catM_of {x y:List UInt8} (h:x.length+y.length≤9223372036854775807):catM x y=some (x++y):=by unfold catM;rw [Nat.ble_eq_true_of_le h]
theorem rpt_of {n:Nat} (h:n≤1000):rptM [(48:UInt8)] (n:Int)=some (repeatL [48] n):=by
 unfold rptM
 rw [decide_eq_true (show (0:Int)≤n by omega),decide_eq_true (show ([(48:UInt8)]:List UInt8).length*(n:Int).toNat≤140737488355328 by simp;omega),decide_eq_true (show (n:Int)≤9223372036854775807 by omega)];rfl
theorem grp_idx {n i:Nat} (h:i<(grp n).length):idxM (grp n) (i:Int)=some ((n / 10000 ^ i % 10000:Nat):Int):=by
 rw [idxM_lt h,← getD_in _ 0 h,grp_get]
theorem pow10k (L:Nat):10000 ^ L=10 ^ (4*L):=by rw [Nat.pow_mul]
theorem dec_len_grp {m n:Nat} (h:n<10000 ^ (m+1)):(decDigits n).length≤4*(m+1):=by
 rw [pow10k] at h
 exact dec_len_le (k:=4*m+3) (by rw [show 4*m+3+1=4*(m+1) by omega];exact h)
theorem div_pow_succ (n j:Nat):n / 10000 ^ (j+1)=n / 10000 ^ j / 10000:=by rw [Nat.pow_succ,Nat.div_div_eq_div_mul]
theorem grp_top {n:Nat} (h:n≠0):n / 10000 ^ ((grp n).length-1)<10000:=by
 have h1:=grp_lt n
 have h2:(grp n).length≠0:=fun e=>h (grp_nil.1 (List.length_eq_zero_iff.1 e))
 rw [Nat.div_lt_iff_lt_mul (Nat.pow_pos (by omega)),Nat.mul_comm,← Nat.pow_succ,show ((grp n).length-1).succ=(grp n).length by omega]
 exact h1
theorem text_ok {ng:Bool} {n:Nat} (hn:(grp n).length≤400):m87 (ng,grp n)=some (if n<10 ^ 200 then (itoa (if ng then -(n:Int) else n),0) else ([],30)):=by
 unfold m87
 by_cases h0:n=0
 ·subst h0
  rw [grp_zero,if_pos (by decide)]
  cases ng
  ·show some (([48]:List UInt8),(0:Int))=some (itoa 0,0);rw [itoa_zero]
  ·show some (([48]:List UInt8),(0:Int))=some (itoa 0,0);rw [itoa_zero]
 ·have hL:(grp n).length≠0:=fun e=>h0 (grp_nil.1 (List.length_eq_zero_iff.1 e))
  obtain ⟨L,hLL⟩:∃ L,(grp n).length=L+1:=⟨(grp n).length-1,by omega⟩
  have hlen:lenM (grp n)=(L:Int)+1:=by rw [lenI,hLL];omega
  have htop:=grp_top h0
  rw [hLL,Nat.add_sub_cancel] at htop
  have hnl:n<10000 ^ (L+1):=by have:=grp_lt n;rwa [hLL] at this
  have hge:10000 ^ L≤n:=by have:=grp_len_pow h0;rwa [hLL,Nat.add_sub_cancel] at this
  have hw:IntKind.wrap .i64 (lenM (grp n)-1)=(L:Int):=by rw [hlen,wrap_in (by omega) (by omega)];omega
  dsimp only
  rw [neI (by rw [hlen];omega),cond_false,hw]
  refine bind_of (x:=decDigits n) ?_ ?_
  ·refine (loopM_fn (fun k=>((L:Int)-k,if k=0 then [] else decDigits (n / 10000 ^ (L+1-k)))) (L+1) (r:=decDigits n) (fun k hk=>?_) ?_)
   ·have hi:(L:Int)-k=((L-k:Nat):Int):=by omega
    have hq:n / 10000 ^ (L-k)≤n:=Nat.div_le_self _ _
    have hdl:(decDigits (n / 10000 ^ (L-k) % 10000)).length≤4:=dec_len4 (by omega)
    have e1:idxM (grp n) ((L-k:Nat):Int)=some ((n / 10000 ^ (L-k) % 10000:Nat):Int):=grp_idx (by omega)
    have e2:itoaM ((n / 10000 ^ (L-k) % 10000:Nat):Int)=decDigits (n / 10000 ^ (L-k) % 10000):=itoa_nn
    have e3:IntKind.wrap .i64 (4-lenM (decDigits (n / 10000 ^ (L-k) % 10000)))=((4-(decDigits (n / 10000 ^ (L-k) % 10000)).length:Nat):Int):=by
     rw [lenI,wrap_in (by omega) (by omega)];omega
    have e4:IntKind.wrap .i64 (((L-k:Nat):Int)-1)=(L:Int)-((k+1:Nat):Int):=by rw [wrap_in (by omega) (by omega)];omega
    dsimp only
    rw [hi,leI (by omega),cond_true,e1,Option.bind_some,e2,e4,if_neg (show ¬ k+1=0 by omega),show L+1-(k+1)=L-k by omega]
    by_cases hk0:k=0
    ·subst hk0
     rw [geI (by omega),cond_false,Option.bind_some,if_pos rfl,Nat.sub_zero]
     rw [Nat.mod_eq_of_lt htop,catB_of (by have:=dec_len4 htop;simp;omega)];rfl
    ·have hb:n / 10000 ^ (L+1-k)=n / 10000 ^ (L-k) / 10000:=by rw [show L+1-k=L-k+1 by omega,div_pow_succ]
     have hbig:10000≤n / 10000 ^ (L-k):=by
      rw [Nat.le_div_iff_mul_le (Nat.pow_pos (by omega)),Nat.mul_comm,← Nat.pow_succ]
      exact Nat.le_trans (Nat.pow_le_pow_right (by omega) (by omega)) hge
     have hlen2:(decDigits (n / 10000 ^ (L-k) / 10000)).length≤4*(L+1):=dec_len_grp (Nat.lt_of_le_of_lt (Nat.le_trans (Nat.div_le_self _ _) hq) hnl)
     have e5:(repeatL [(48:UInt8)] (4-(decDigits (n / 10000 ^ (L-k) % 10000)).length)++decDigits (n / 10000 ^ (L-k) % 10000)).length=4:=by rw [pad_dec (by omega)];rfl
     rw [List.length_append] at e5
     rw [ltI (by omega),cond_true,e3,rpt_of (by omega),Option.bind_some,catM_of (by omega),Option.bind_some,pad_dec (by omega),Option.bind_some,if_neg hk0,hb,
      catB_of (by show _+4≤_;omega),← dec_pad hbig];rfl
   ·have e:(L:Int)-((L+1:Nat):Int)=-1:=by omega
    dsimp only
    rw [e,if_neg (by omega),show L+1-(L+1)=0 by omega,Nat.pow_zero,Nat.div_one];rfl
  ·have hl2:=dec_len_grp hnl
   by_cases hs:n<10 ^ 200
   ·have h200:(decDigits n).length≤200:=dec_len_le (k:=199) hs
    rw [if_pos hs,geI (by rw [lenI];omega),cond_false]
    cases ng
    ·rw [cond_false,if_neg (by decide),itoa_nn]
    ·rw [cond_true,catM_of (by simp;omega),Option.bind_some,if_pos rfl,itoa_ng h0];rfl
   ·have h200:¬ (decDigits n).length≤200:=fun h=>hs (Nat.lt_of_lt_of_le (dec_len_lt n) (Nat.pow_le_pow_right (by omega) h))
    rw [if_neg hs,ltI (by rw [lenI];omega),cond_true]
def Sg (o:Bool×List Int) (z:Int):Prop:=o.2=grp z.natAbs∧(z≠0→o.1=decide (z<0))
theorem textZ {o:Bool×List Int} {z:Int} (h:Sg o z) (hn:(grp z.natAbs).length≤400):m87 o=some (if z.natAbs<10 ^ 200 then (itoa z,0) else ([],30)):=by
 obtain ⟨ng,l⟩:=o
 obtain ⟨h1,h2⟩:=h
 dsimp only at h1 h2
 subst h1
 rw [text_ok hn]
 have e:(if ng then -(z.natAbs:Int) else z.natAbs)=z:=by
  by_cases hz:z=0
  ·subst hz;cases ng<;>rfl
  ·rw [h2 hz]
   by_cases hneg:z<0
   ·rw [if_pos (by simpa using hneg)];omega
   ·rw [if_neg (by simpa using hneg)];omega
 rw [e]
theorem iat_ok (l:List Int) (i:Nat):m119 (l,(i:Int))=some (l.getD i 0):=by
 unfold m119
 by_cases h:i<l.length
 ·dsimp only;rw [ltI (by rw [lenI];omega),cond_true,idxM_lt h,getD_in _ _ h];rfl
 ·dsimp only;rw [geI (by rw [lenI];omega),cond_false,getD_out _ _ (by omega)]
theorem mk0 {n:Int} (h0:0≤n) (h:n≤1000000):mkM 0 n (nat_lit 8) (0:Int)=some []:=by rw [mkM_of (by omega) (by omega) (by show n*8≤_;omega)];rfl
theorem app1 {l:List Int} {d:Int} (h:l.length≤1000000):appM (nat_lit 8) l [d]=some (l++[d]):=appM_of (by simp;omega)
theorem fold_end {o:Option (List Int)} {n k:Nat} (h:Ans o fun out=>okd out∧vl out=(n:Int)∧out.length≤k+1) (hk:k≤10000):(o.bind fun o=>(m113 o).bind fun r=>some r)=some (grp n):=by
 refine Ans.is (Ans.bind h ?_)
 rintro out ⟨h1,h2,h3⟩
 have e:=strip_ok h1 (by omega)
 rw [h2] at e
 exact .of (by rw [e];rfl) rfl
theorem seq_at (n:Nat) (g:Nat→Int) {i:Nat} (hz:∀ i,n≤i→g i=0):(seqL n g).getD i 0=g i:=by
 by_cases h:i<n
 ·exact seqL_get n g i h
 ·rw [getD_out _ _ (by rw [seqL_len];omega),hz i (by omega)]
theorem plus_ok {a b:Nat} (ha:(grp a).length≤1000) (hb:(grp b).length≤1000):m84 (grp a,grp b)=some (grp (a+b)):=by
 unfold m84
 dsimp only
 have hm:max (lenM (grp a)) (lenM (grp b))=((max (grp a).length (grp b).length:Nat):Int):=by rw [lenI,lenI];omega
 rw [hm,wrap_in (by omega) (by omega),mk0 (by omega) (by omega),Option.bind_some]
 have hs:∀ i,(seqL (max (grp a).length (grp b).length) fun i=>(grp a).getD i 0+(grp b).getD i 0).getD i 0=(grp a).getD i 0+(grp b).getD i 0:=fun i=>seq_at _ _ fun i hi=>by rw [getD_out _ _ (by omega),getD_out _ _ (by omega)];rfl
 have hA:=okd_get (grp_okd a)
 have hB:=okd_get (grp_okd b)
 have hv:vl (seqL (max (grp a).length (grp b).length) fun i=>(grp a).getD i 0+(grp b).getD i 0)=((a+b:Nat):Int):=by
  rw [vl_add,vl_of _ _ (by omega),vl_of _ _ (by omega),vl_grp,vl_grp];omega
 refine fold_end (k:=max (grp a).length (grp b).length) ?_ (by omega)
 have key:=carry_loop (dl:=seqL (max (grp a).length (grp b).length) fun i=>(grp a).getD i 0+(grp b).getD i 0) (fun i=>by rw [hs];have:=hA i;have:=hB i;omega) (by rw [hv];omega)
  (body:=fun (s:Int×Int×List Int)=>bif PE.orM (ltM s.2.1 ((max (grp a).length (grp b).length:Nat):Int))
 (PE.notM (eqM s.1 0)) then (m119 (grp a,s.2.1)).bind fun r_1=>(m119 (grp b,s.2.1)).bind fun r_2=>(bif ltM (IntKind.wrap .i64 (IntKind.wrap
 IntKind.i64 (r_1+r_2)+s.1)) 0 then some ((-1),IntKind.wrap .i64 (IntKind.wrap .i64 (IntKind.wrap .i64 (r_1+r_2)+s.1)+10000)) else bif leM 10000 (IntKind.wrap
 IntKind.i64 (IntKind.wrap .i64 (r_1+r_2)+s.1)) then (divM .i64 (IntKind.wrap .i64 (IntKind.wrap .i64 (r_1+r_2)+s.1)) 10000).bind fun r_3=>(remM
 (IntKind.wrap .i64 (IntKind.wrap .i64 (r_1+r_2)+s.1)) 10000).bind fun r=>some (r_3,r) else some (0,IntKind.wrap .i64 (IntKind.wrap .i64 (r_1+r_2) +
 s.1))).bind fun o=>(appM (nat_lit 8) s.2.2 [o.2]).bind fun r=>some (Sum.inl (o.1,IntKind.wrap .i64 (s.2.1+1),r)) else some (Sum.inr s.2.2))
  (fun i c out ho hi h1 h2 h3=>?_) (fun i out hi=>?_)
 ·rw [hv,seqL_len] at key
  exact key
 ·rw [seqL_len] at hi h3
  have hA:=hA i
  have hB:=hB i
  have hc:PE.orM (ltM (i:Int) ((max (grp a).length (grp b).length:Nat):Int)) (PE.notM (eqM c 0))=true:=by
   rcases h3 with h | h
   ·rw [ltI (by omega),orT]
   ·rw [neI h,notF];cases ltM (i:Int) _<;>rfl
  have e:IntKind.wrap .i64 (IntKind.wrap .i64 ((grp a).getD i 0+(grp b).getD i 0)+c)=(grp a).getD i 0+(grp b).getD i 0+c:=by rw [wrap_in (n:=_+_) (by rw [wrap_in (by omega) (by omega)];omega) (by rw [wrap_in (by omega) (by omega)];omega),wrap_in (by omega) (by omega)]
  dsimp only
  rw [hc,cond_true,iat_ok,Option.bind_some,iat_ok,Option.bind_some,e,step_digit (by omega) (by omega),Option.bind_some,app1 (by omega),Option.bind_some,wrap_in (by omega) (by omega),hs]
 ·rw [seqL_len] at hi
  dsimp only
  rw [geI (by omega)];rfl
end Go.Proofs.YtechphmljdgoaaaGreatDoor
