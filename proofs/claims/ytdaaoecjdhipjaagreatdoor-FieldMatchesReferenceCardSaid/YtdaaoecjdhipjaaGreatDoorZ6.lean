/-
 Texts of this proof, put together: F, Fs, PB, PC, PD, Fa, Fb, Fc, Fd, Fe, Ff, Fg, Fh, Fi, Fj, LawFieldMatchesReference.
 No conditions.
-/
import Derived.Test.YtdaaoecjdhipjaaGreatDoorZ5
import Derived.IntWalk
set_option linter.all false
namespace Go.Proofs.YtdaaoecjdhipjaaGreatDoor
open Go Go.Abs Go.PE Go.Proofs
open Go.IntKind (wrap)
set_option maxRecDepth 100000
set_option maxHeartbeats 0
noncomputable section
def m17F:(Int×Int×List Int×List Int)→Option (Bool) :=
 fun x=>(m51 (x.1,1,6)).bind fun r=>(bif PE.notM (PE.notM r) then m51 (x.2.1,1,6) else some false).bind fun r_1=>bif PE.orM (PE.orM (PE.orM (PE.notM r)
 (PE.notM r_1)) (PE.notM (eqM (lenM x.2.2.1) (wrap IntKind.i64 (wrap IntKind.i64 (x.1+1)*wrap IntKind.i64 (x.2.1+1)))))) (PE.notM (eqM (lenM x.2.2.2)
 (lenM x.2.2.1))) then some false else (loopF (fun (s:Int)=>bif ltM s (lenM x.2.2.1) then (idxM x.2.2.1 s).bind fun r_2=>(idxM x.2.2.2 s).bind fun r_3 =>
 (m51 (r_2,0,r_3)).bind fun r_4=>(bif PE.notM (PE.notM r_4) then idxM x.2.2.2 s else some 0).bind fun r=>bif PE.orM (PE.notM r_4) (ltM 100 r) then some
 (Sum.inr (Sum.inr false)) else some (Sum.inl (wrap IntKind.i64 (s+1))) else some (Sum.inr (Sum.inl ()))) 0).bind fun o=>Sum.elim (fun (t:Unit)=>some
 true) (fun (t:Bool)=>some t) o
theorem le17 (x):Le (m17F x) (m17 x):=by
 unfold m17F m17
 repeat' first | with_reducible exact Le.refl _ | intro _ | apply Le.bind | apply Le.cond | apply Le.nil | apply Le.loop | apply Le.elim
def m20F:((Int×Int×List Int×List Int)×Int×Int×Int)→Option (Int×Int×Int) :=
 fun x=>(m17F (x.1.1,x.1.2.1,x.1.2.2.1,x.1.2.2.2)).bind fun r=>(bif PE.notM (PE.notM r) then m51 (x.2.2.2,1,60) else some false).bind fun r_1=>(bif
 PE.notM (PE.orM (PE.notM r) (PE.notM r_1)) then m51 (x.2.1,0,wrap IntKind.i64 (x.1.1*x.2.2.2)) else some false).bind fun r_2=>(bif PE.notM (PE.orM
 (PE.orM (PE.notM r) (PE.notM r_1)) (PE.notM r_2)) then m51 (x.2.2.1,0,wrap IntKind.i64 (x.1.2.1*x.2.2.2)) else some false).bind fun r_3=>bif PE.orM
 (PE.orM (PE.orM (PE.notM r) (PE.notM r_1)) (PE.notM r_2)) (PE.notM r_3) then some (0,0,250) else (divM IntKind.i64 x.2.1 x.2.2.2).bind fun r_4=>(divM
 IntKind.i64 x.2.2.1 x.2.2.2).bind fun r_5=>((idxM x.1.2.2.1 (wrap IntKind.i64 (wrap IntKind.i64 (wrap IntKind.i64 (min r_5 (wrap IntKind.i64 (x.1.2.1-1))
 + 1)*wrap IntKind.i64 (x.1.1+1))+wrap IntKind.i64 (min r_4 (wrap IntKind.i64 (x.1.1-1))+1)))).bind fun r_6=>bif leM (wrap IntKind.i64 (x.2.2.1 -
 wrap IntKind.i64 (min r_5 (wrap IntKind.i64 (x.1.2.1-1))*x.2.2.2))) (wrap IntKind.i64 (x.2.1-wrap IntKind.i64 (min r_4 (wrap IntKind.i64 (x.1.1-1)) *
 x.2.2.2))) then ((idxM x.1.2.2.1 (wrap IntKind.i64 (wrap IntKind.i64 (min r_5 (wrap IntKind.i64 (x.1.2.1-1))*wrap IntKind.i64 (x.1.1+1))+min r_4 (wrap
 IntKind.i64 (x.1.1-1))))).bind fun r=>some r).bind fun (ov:Int)=>((idxM x.1.2.2.1 (wrap IntKind.i64 (wrap IntKind.i64 (min r_5 (wrap IntKind.i64
 (x.1.2.1-1))*wrap IntKind.i64 (x.1.1+1))+wrap IntKind.i64 (min r_4 (wrap IntKind.i64 (x.1.1-1))+1)))).bind fun r=>some r).bind fun (ov_1:Int)
 => some (wrap IntKind.i64 (wrap IntKind.i64 (wrap IntKind.i64 (wrap IntKind.i64 (x.2.2.2-wrap IntKind.i64 (x.2.1-wrap IntKind.i64 (min r_4 (wrap
 IntKind.i64 (x.1.1-1))*x.2.2.2)))*ov)+wrap IntKind.i64 (wrap IntKind.i64 (wrap IntKind.i64 (x.2.1-wrap IntKind.i64 (min r_4 (wrap IntKind.i64 (x.1.1
 - 1))*x.2.2.2))-wrap IntKind.i64 (x.2.2.1-wrap IntKind.i64 (min r_5 (wrap IntKind.i64 (x.1.2.1-1))*x.2.2.2)))*ov_1))+wrap IntKind.i64 (wrap
 IntKind.i64 (x.2.2.1-wrap IntKind.i64 (min r_5 (wrap IntKind.i64 (x.1.2.1-1))*x.2.2.2))*r_6))) else ((idxM x.1.2.2.1 (wrap IntKind.i64 (wrap
 IntKind.i64 (min r_5 (wrap IntKind.i64 (x.1.2.1-1))*wrap IntKind.i64 (x.1.1+1))+min r_4 (wrap IntKind.i64 (x.1.1-1))))).bind fun r=>some r).bind
 fun (ov:Int)=>((idxM x.1.2.2.1 (wrap IntKind.i64 (wrap IntKind.i64 (wrap IntKind.i64 (min r_5 (wrap IntKind.i64 (x.1.2.1-1))+1)*wrap IntKind.i64
 (x.1.1+1))+min r_4 (wrap IntKind.i64 (x.1.1-1))))).bind fun r=>some r).bind fun (ov_1:Int)=>some (wrap IntKind.i64 (wrap IntKind.i64 (wrap
 IntKind.i64 (wrap IntKind.i64 (x.2.2.2-wrap IntKind.i64 (x.2.2.1-wrap IntKind.i64 (min r_5 (wrap IntKind.i64 (x.1.2.1-1))*x.2.2.2)))*ov)+wrap
 IntKind.i64 (wrap IntKind.i64 (wrap IntKind.i64 (x.2.2.1-wrap IntKind.i64 (min r_5 (wrap IntKind.i64 (x.1.2.1-1))*x.2.2.2))-wrap IntKind.i64 (x.2.1 -
 wrap IntKind.i64 (min r_4 (wrap IntKind.i64 (x.1.1-1))*x.2.2.2)))*ov_1))+wrap IntKind.i64 (wrap IntKind.i64 (x.2.1-wrap IntKind.i64 (min r_4 (wrap
 IntKind.i64 (x.1.1-1))*x.2.2.2))*r_6)))).bind fun (ov:Int)=>((idxM x.1.2.2.2 (wrap IntKind.i64 (wrap IntKind.i64 (wrap IntKind.i64 (min r_5 (wrap
 IntKind.i64 (x.1.2.1-1))+1)*wrap IntKind.i64 (x.1.1+1))+wrap IntKind.i64 (min r_4 (wrap IntKind.i64 (x.1.1-1))+1)))).bind fun r_6=>bif leM
 (wrap IntKind.i64 (x.2.2.1-wrap IntKind.i64 (min r_5 (wrap IntKind.i64 (x.1.2.1-1))*x.2.2.2))) (wrap IntKind.i64 (x.2.1-wrap IntKind.i64 (min r_4
 (wrap IntKind.i64 (x.1.1-1))*x.2.2.2))) then ((idxM x.1.2.2.2 (wrap IntKind.i64 (wrap IntKind.i64 (min r_5 (wrap IntKind.i64 (x.1.2.1-1))*wrap
 IntKind.i64 (x.1.1+1))+min r_4 (wrap IntKind.i64 (x.1.1-1))))).bind fun r=>some r).bind fun (ov_1:Int)=>((idxM x.1.2.2.2 (wrap IntKind.i64 (wrap
 IntKind.i64 (min r_5 (wrap IntKind.i64 (x.1.2.1-1))*wrap IntKind.i64 (x.1.1+1))+wrap IntKind.i64 (min r_4 (wrap IntKind.i64 (x.1.1-1))+1)))).bind
 fun r=>some r).bind fun (ov:Int)=>some (wrap IntKind.i64 (wrap IntKind.i64 (wrap IntKind.i64 (wrap IntKind.i64 (x.2.2.2-wrap IntKind.i64 (x.2.1-wrap
 IntKind.i64 (min r_4 (wrap IntKind.i64 (x.1.1-1))*x.2.2.2)))*ov_1)+wrap IntKind.i64 (wrap IntKind.i64 (wrap IntKind.i64 (x.2.1-wrap IntKind.i64 (min
 r_4 (wrap IntKind.i64 (x.1.1-1))*x.2.2.2))-wrap IntKind.i64 (x.2.2.1-wrap IntKind.i64 (min r_5 (wrap IntKind.i64 (x.1.2.1-1))*x.2.2.2)))*ov)) +
 wrap IntKind.i64 (wrap IntKind.i64 (x.2.2.1-wrap IntKind.i64 (min r_5 (wrap IntKind.i64 (x.1.2.1-1))*x.2.2.2))*r_6))) else ((idxM x.1.2.2.2 (wrap
 IntKind.i64 (wrap IntKind.i64 (min r_5 (wrap IntKind.i64 (x.1.2.1-1))*wrap IntKind.i64 (x.1.1+1))+min r_4 (wrap IntKind.i64 (x.1.1-1))))).bind fun r
 => some r).bind fun (ov_1:Int)=>((idxM x.1.2.2.2 (wrap IntKind.i64 (wrap IntKind.i64 (wrap IntKind.i64 (min r_5 (wrap IntKind.i64 (x.1.2.1-1))+1) *
 wrap IntKind.i64 (x.1.1+1))+min r_4 (wrap IntKind.i64 (x.1.1-1))))).bind fun r=>some r).bind fun (ov:Int)=>some (wrap IntKind.i64 (wrap
 IntKind.i64 (wrap IntKind.i64 (wrap IntKind.i64 (x.2.2.2-wrap IntKind.i64 (x.2.2.1-wrap IntKind.i64 (min r_5 (wrap IntKind.i64 (x.1.2.1-1))*x.2.2.2)))
 * ov_1)+wrap IntKind.i64 (wrap IntKind.i64 (wrap IntKind.i64 (x.2.2.1-wrap IntKind.i64 (min r_5 (wrap IntKind.i64 (x.1.2.1-1))*x.2.2.2))-wrap
 IntKind.i64 (x.2.1-wrap IntKind.i64 (min r_4 (wrap IntKind.i64 (x.1.1-1))*x.2.2.2)))*ov))+wrap IntKind.i64 (wrap IntKind.i64 (x.2.1-wrap
 IntKind.i64 (min r_4 (wrap IntKind.i64 (x.1.1-1))*x.2.2.2))*r_6)))).bind fun (ov_1:Int)=>some (ov,ov_1,0)
theorem le20 (x):Le (m20F x) (m20 x):=by
 unfold m20F m20
 repeat' first | with_reducible exact le17 _ | with_reducible exact Le.refl _ | intro _ | apply Le.bind | apply Le.cond | apply Le.nil | apply Le.loop | apply Le.elim
def m15F:(Int×Int×List Int×List Int)→Option (Int×Int) :=
 fun x=>(m17F (x.1,x.2.1,x.2.2.1,x.2.2.2)).bind fun r=>bif PE.notM r then some (0,0) else ((loopF (fun (s:Int×Int)=>bif ltM s.1 x.2.1 then (loopF
 (fun (s_1:Int×Int)=>bif ltM s_1.1 x.1 then ((idxM x.2.2.1 (wrap IntKind.i64 (wrap IntKind.i64 (s.1*wrap IntKind.i64 (x.1+1))+s_1.1))).bind fun r
 => some r).bind fun (ov:Int)=>((idxM x.2.2.1 (wrap IntKind.i64 (wrap IntKind.i64 (s.1*wrap IntKind.i64 (x.1+1))+wrap IntKind.i64 (s_1.1+1)))).bind
 fun r=>some r).bind fun (ov_1:Int)=>((idxM x.2.2.1 (wrap IntKind.i64 (wrap IntKind.i64 (wrap IntKind.i64 (s.1+1)*wrap IntKind.i64 (x.1+1))+wrap
 IntKind.i64 (s_1.1+1)))).bind fun r=>some r).bind fun (ov_2:Int)=>((idxM x.2.2.1 (wrap IntKind.i64 (wrap IntKind.i64 (s.1*wrap IntKind.i64 (x.1 +
 1))+s_1.1))).bind fun r=>some r).bind fun (ov_3:Int)=>((idxM x.2.2.1 (wrap IntKind.i64 (wrap IntKind.i64 (wrap IntKind.i64 (s.1+1)*wrap
 IntKind.i64 (x.1+1))+wrap IntKind.i64 (s_1.1+1)))).bind fun r=>some r).bind fun (ov_4:Int)=>((idxM x.2.2.1 (wrap IntKind.i64 (wrap IntKind.i64
 (wrap IntKind.i64 (s.1+1)*wrap IntKind.i64 (x.1+1))+s_1.1))).bind fun r=>some r).bind fun (ov_5:Int)=>some (Sum.inl (wrap IntKind.i64 (s_1.1 +
 1),wrap IntKind.i64 (wrap IntKind.i64 (s_1.2+wrap IntKind.i64 (wrap IntKind.i64 (ov+ov_1)+ov_2))+wrap IntKind.i64 (wrap IntKind.i64 (ov_3+ov_4) +
 ov_5)))) else some (Sum.inr s_1.2)) (0,s.2)).bind fun o=>some (Sum.inl (wrap IntKind.i64 (s.1+1),o)) else some (Sum.inr s.2)) (0,0)).bind fun o=>some
 o).bind fun (ov:Int)=>((loopF (fun (s:Int×Int)=>bif ltM s.1 x.2.1 then (loopF (fun (s_1:Int×Int)=>bif ltM s_1.1 x.1 then ((idxM x.2.2.2 (wrap
 IntKind.i64 (wrap IntKind.i64 (s.1*wrap IntKind.i64 (x.1+1))+s_1.1))).bind fun r=>some r).bind fun (ov_1:Int)=>((idxM x.2.2.2 (wrap IntKind.i64
 (wrap IntKind.i64 (s.1*wrap IntKind.i64 (x.1+1))+wrap IntKind.i64 (s_1.1+1)))).bind fun r=>some r).bind fun (ov_2:Int)=>((idxM x.2.2.2 (wrap
 IntKind.i64 (wrap IntKind.i64 (wrap IntKind.i64 (s.1+1)*wrap IntKind.i64 (x.1+1))+wrap IntKind.i64 (s_1.1+1)))).bind fun r=>some r).bind fun (ov_3
 : Int)=>((idxM x.2.2.2 (wrap IntKind.i64 (wrap IntKind.i64 (s.1*wrap IntKind.i64 (x.1+1))+s_1.1))).bind fun r=>some r).bind fun (ov_4:Int) =>
 ((idxM x.2.2.2 (wrap IntKind.i64 (wrap IntKind.i64 (wrap IntKind.i64 (s.1+1)*wrap IntKind.i64 (x.1+1))+wrap IntKind.i64 (s_1.1+1)))).bind fun r =>
 some r).bind fun (ov_5:Int)=>((idxM x.2.2.2 (wrap IntKind.i64 (wrap IntKind.i64 (wrap IntKind.i64 (s.1+1)*wrap IntKind.i64 (x.1+1))+s_1.1))).bind
 fun r=>some r).bind fun (ov:Int)=>some (Sum.inl (wrap IntKind.i64 (s_1.1+1),wrap IntKind.i64 (wrap IntKind.i64 (s_1.2+wrap IntKind.i64 (wrap
 IntKind.i64 (ov_1+ov_2)+ov_3))+wrap IntKind.i64 (wrap IntKind.i64 (ov_4+ov_5)+ov)))) else some (Sum.inr s_1.2)) (0,s.2)).bind fun o=>some
 (Sum.inl (wrap IntKind.i64 (s.1+1),o)) else some (Sum.inr s.2)) (0,0)).bind fun o=>some o).bind fun (ov_1:Int)=>some (ov,ov_1)
theorem le15 (x):Le (m15F x) (m15 x):=by
 unfold m15F m15
 repeat' first | with_reducible exact le17 _ | with_reducible exact Le.refl _ | intro _ | apply Le.bind | apply Le.cond | apply Le.nil | apply Le.loop | apply Le.elim
def m45F:(List (Int×Int))→Option (Bool) :=
 fun x=>(bif PE.notM (PE.orM (ltM (lenM x) 3) (ltM 8 (lenM x))) then ((loopF (fun (s:Int)=>bif ltM s (lenM x) then (idxM x s).bind fun r=>(m85 (r.1,
 r.2)).bind fun r=>bif r then some (Sum.inr (Sum.inr s)) else some (Sum.inl (wrap IntKind.i64 (s+1))) else some (Sum.inr (Sum.inl ()))) 0).bind fun o =>
 Sum.elim (fun (t:Unit)=>some (-1)) (fun (t:Int)=>some t) o).bind fun (ov:Int)=>some (leM 0 ov) else some false).bind fun (ov:Bool)=>bif PE.orM
 (PE.orM (ltM (lenM x) 3) (ltM 8 (lenM x))) ov then some false else (loopF (fun (s:Int)=>bif ltM s (lenM x) then (idxM x s).bind fun r=>(remM (wrap
 IntKind.i64 (s+1)) (lenM x)).bind fun r_1=>(loopF (fun (s_1:Int)=>bif ltM s_1 (lenM x) then (idxM x s_1).bind fun r_2=>(bif PE.andM (PE.notM (eqM
 s_1 s)) (PE.notM (eqM s_1 r_1)) then idxM x r_1 else some (0,0)).bind fun r_3=>(bif PE.andM (PE.notM (eqM s_1 s)) (PE.notM (eqM s_1 r_1)) then m84 ((r.1,
 r.2),(r_3.1,r_3.2),r_2.1,r_2.2) else some 0).bind fun r=>bif PE.andM (PE.andM (PE.notM (eqM s_1 s)) (PE.notM (eqM s_1 r_1))) (leM r 0) then some
 (Sum.inr (Sum.inr false)) else some (Sum.inl (wrap IntKind.i64 (s_1+1))) else some (Sum.inr (Sum.inl ()))) 0).bind fun o=>Sum.elim (fun (t:Unit)=>some
 (Sum.inl (wrap IntKind.i64 (s+1)))) (fun (t:Bool)=>some (Sum.inr (Sum.inr t))) o else some (Sum.inr (Sum.inl ()))) 0).bind fun o=>Sum.elim (fun (t :
 Unit)=>some true) (fun (t:Bool)=>some t) o
theorem le45 (x):Le (m45F x) (m45 x):=by
 unfold m45F m45
 repeat' first | with_reducible exact Le.refl _ | intro _ | apply Le.bind | apply Le.cond | apply Le.nil | apply Le.loop | apply Le.elim
def m153F:List Int→Option (List Int) :=
 fun x=>(loopF (fun (s:List Int)=>(bif ltM 0 (lenM s) then idxM s (wrap IntKind.i64 (lenM s-1)) else some 0).bind fun r=>bif PE.andM (ltM 0 (lenM s))
 (eqM r 0) then (sliceM s 0 (wrap IntKind.i64 (lenM s-1))).bind fun r=>some (Sum.inl r) else some (Sum.inr s)) x).bind fun o=>some o
theorem le153 (x):Le (m153F x) (m153 x):=by
 unfold m153F m153
 repeat' first | with_reducible exact Le.refl _ | intro _ | apply Le.bind | apply Le.cond | apply Le.nil | apply Le.loop | apply Le.elim
def m151F:List UInt8→Option (Bool×List Int) :=
 fun x=>(loopF (fun (s:List UInt8×Bool×List Int)=>bif ltM 0 (lenM s.1) then (sliceM s.1 (max 0 (wrap IntKind.i64 (lenM s.1-4))) (lenM s.1)).bind fun
 r=>(atoiM r).bind fun r_1=>(appM (nat_lit 8) s.2.2 [r_1]).bind fun r_2=>(sliceM s.1 0 (max 0 (wrap IntKind.i64 (lenM s.1-4)))).bind fun r=>some
 (Sum.inl (r,s.2.1,r_2)) else some (Sum.inr (s.2.1,s.2.2))) (prefM x [(45:UInt8)],ltM (lenM (prefM x [(45:UInt8)])) (lenM x),[])).bind fun o=>(m153F
 o.2).bind fun r=>some (o.1,r)
theorem le151 (x):Le (m151F x) (m151 x):=by
 unfold m151F m151
 repeat' first | with_reducible exact le153 _ | with_reducible exact Le.refl _ | intro _ | apply Le.bind | apply Le.cond | apply Le.nil | apply Le.loop | apply Le.elim
def m113F:(List UInt8×List UInt8)→Option ((Bool×List Int)×(Bool×List Int)×Bool) :=
 fun x=>(m150 x.1).bind fun r=>(bif PE.notM (PE.notM r) then m150 x.2 else some false).bind fun r_1=>bif PE.orM (PE.notM r) (PE.notM r_1) then some
 ((false,[]),(false,[]),false) else (m151F x.1).bind fun r_2=>(m151F x.2).bind fun r=>some ((r_2.1,r_2.2),(r.1,r.2),true)
theorem le113 (x):Le (m113F x) (m113 x):=by
 unfold m113F m113
 repeat' first | with_reducible exact le151 _ | with_reducible exact Le.refl _ | intro _ | apply Le.bind | apply Le.cond | apply Le.nil | apply Le.loop | apply Le.elim
def m119F:(List Int×List Int)→Option (Int) :=
 fun x=>bif PE.notM (eqM (lenM x.1) (lenM x.2)) then (m164 (lenM x.1,lenM x.2)).bind fun r=>some r else (loopF (fun (s:Int)=>bif leM 0 s then (idxM x.1
 s).bind fun r=>(idxM x.2 s).bind fun r_1=>bif PE.notM (eqM r r_1) then (idxM x.2 s).bind fun r_2=>(m164 (r,r_2)).bind fun r=>some (Sum.inr (Sum.inr
 r)) else some (Sum.inl (wrap IntKind.i64 (s-1))) else some (Sum.inr (Sum.inl ()))) (wrap IntKind.i64 (lenM x.1-1))).bind fun o=>Sum.elim (fun (t:Unit)
 => some 0) (fun (t:Int)=>some t) o
theorem le119 (x):Le (m119F x) (m119 x):=by
 unfold m119F m119
 repeat' first | with_reducible exact Le.refl _ | intro _ | apply Le.bind | apply Le.cond | apply Le.nil | apply Le.loop | apply Le.elim
def m77F:(List UInt8×List UInt8)→Option (Int) :=
 fun x=>(m113F (x.1,x.2)).bind fun r=>bif PE.notM r.2.2 then some 0 else bif PE.andM r.1.1 r.2.1.1 then (m119F (r.2.1.2,r.1.2)).bind fun r=>some r else
 bif r.1.1 then some (-1) else bif r.2.1.1 then some 1 else (m119F (r.1.2,r.2.1.2)).bind fun r=>some r
theorem le77 (x):Le (m77F x) (m77 x):=by
 unfold m77F m77
 repeat' first | with_reducible exact le113 _ | with_reducible exact le119 _ | with_reducible exact Le.refl _ | intro _ | apply Le.bind | apply Le.cond | apply Le.nil | apply Le.loop | apply Le.elim
def m115F:(List Int×List Int)→Option (List Int) :=
 fun x=>(mkM 0 (wrap IntKind.i64 (max (lenM x.1) (lenM x.2)+1)) (nat_lit 8) 0).bind fun r=>(loopF (fun (s:Int×Int×List Int)=>bif PE.orM (ltM s.2.1
 (max (lenM x.1) (lenM x.2))) (PE.notM (eqM s.1 0)) then (m159 (x.1,s.2.1)).bind fun r_1=>(m159 (x.2,s.2.1)).bind fun r_2=>(bif ltM (wrap IntKind.i64
 (wrap IntKind.i64 (r_1+r_2)+s.1)) 0 then some ((-1),wrap IntKind.i64 (wrap IntKind.i64 (wrap IntKind.i64 (r_1+r_2)+s.1)+10000)) else bif leM 10000
 (wrap IntKind.i64 (wrap IntKind.i64 (r_1+r_2)+s.1)) then (divM IntKind.i64 (wrap IntKind.i64 (wrap IntKind.i64 (r_1+r_2)+s.1)) 10000).bind fun r_3 =>
 (remM (wrap IntKind.i64 (wrap IntKind.i64 (r_1+r_2)+s.1)) 10000).bind fun r=>some (r_3,r) else some (0,wrap IntKind.i64 (wrap IntKind.i64 (r_1+r_2)
 + s.1))).bind fun o=>(appM (nat_lit 8) s.2.2 [o.2]).bind fun r=>some (Sum.inl (o.1,wrap IntKind.i64 (s.2.1+1),r)) else some (Sum.inr s.2.2)) (0,0,
 r)).bind fun o=>(m153F o).bind fun r=>some r
theorem le115 (x):Le (m115F x) (m115 x):=by
 unfold m115F m115
 repeat' first | with_reducible exact le153 _ | with_reducible exact Le.refl _ | intro _ | apply Le.bind | apply Le.cond | apply Le.nil | apply Le.loop | apply Le.elim
def m117F:(List Int×List Int)→Option (List Int) :=
 fun x=>(mkM 0 (wrap IntKind.i64 (lenM x.1+1)) (nat_lit 8) 0).bind fun r=>(loopF (fun (s:Int×Int×List Int)=>bif PE.orM (ltM s.2.1 (lenM x.1))
 (PE.notM (eqM s.1 0)) then (m159 (x.1,s.2.1)).bind fun r_1=>(m159 (x.2,s.2.1)).bind fun r_2=>(bif ltM (wrap IntKind.i64 (wrap IntKind.i64 (r_1-r_2) +
 s.1)) 0 then some ((-1),wrap IntKind.i64 (wrap IntKind.i64 (wrap IntKind.i64 (r_1-r_2)+s.1)+10000)) else bif leM 10000 (wrap IntKind.i64 (wrap
 IntKind.i64 (r_1-r_2)+s.1)) then (divM IntKind.i64 (wrap IntKind.i64 (wrap IntKind.i64 (r_1-r_2)+s.1)) 10000).bind fun r_3=>(remM (wrap IntKind.i64
 (wrap IntKind.i64 (r_1-r_2)+s.1)) 10000).bind fun r=>some (r_3,r) else some (0,wrap IntKind.i64 (wrap IntKind.i64 (r_1-r_2)+s.1))).bind fun o =>
 (appM (nat_lit 8) s.2.2 [o.2]).bind fun r=>some (Sum.inl (o.1,wrap IntKind.i64 (s.2.1+1),r)) else some (Sum.inr s.2.2)) (0,0,r)).bind fun o=>(m153F
 o).bind fun r=>some r
theorem le117 (x):Le (m117F x) (m117 x):=by
 unfold m117F m117
 repeat' first | with_reducible exact le153 _ | with_reducible exact Le.refl _ | intro _ | apply Le.bind | apply Le.cond | apply Le.nil | apply Le.loop | apply Le.elim
def m127F:((Bool×List Int)×Bool×List Int)→Option (Bool×List Int) :=
 fun x=>bif eqbM x.1.1 x.2.1 then (m115F (x.1.2,x.2.2)).bind fun r=>some (x.1.1,r) else (m119F (x.1.2,x.2.2)).bind fun r=>bif leM 0 r then (m117F
 (x.1.2,x.2.2)).bind fun r=>some (x.1.1,r) else (m117F (x.2.2,x.1.2)).bind fun r=>some (x.2.1,r)
theorem le127 (x):Le (m127F x) (m127 x):=by
 unfold m127F m127
 repeat' first | with_reducible exact le115 _ | with_reducible exact le117 _ | with_reducible exact le119 _ | with_reducible exact Le.refl _ | intro _ | apply Le.bind | apply Le.cond | apply Le.nil | apply Le.loop | apply Le.elim
def m118F:(Bool×List Int)→Option (List UInt8×Int) :=
 fun x=>bif eqM (lenM x.2) 0 then some ([(48:UInt8)],0) else (loopF (fun (s:Int×List UInt8)=>bif leM 0 s.1 then (idxM x.2 s.1).bind fun r=>(bif ltM
 s.1 (wrap IntKind.i64 (lenM x.2-1)) then (rptM [(48:UInt8)] (wrap IntKind.i64 (4-lenM (itoaM r)))).bind fun r_1=>(catM r_1 (itoaM r)).bind fun r =>
 some r else some (itoaM r)).bind fun o=>(catB s.2 o).bind fun r=>some (Sum.inl (wrap IntKind.i64 (s.1-1),r)) else some (Sum.inr s.2)) (wrap IntKind.i64
 (lenM x.2-1),[])).bind fun o=>bif ltM 200 (lenM o) then some ([],30) else bif x.1 then (catM [(45:UInt8)] o).bind fun r=>some (r,0) else some (o,
 0)
theorem le118 (x):Le (m118F x) (m118 x):=by
 unfold m118F m118
 repeat' first | with_reducible exact Le.refl _ | intro _ | apply Le.bind | apply Le.cond | apply Le.nil | apply Le.loop | apply Le.elim
def m148F:(List UInt8×List UInt8)→Option (List UInt8×Int) :=
 fun x=>(m113F (x.1,x.2)).bind fun r=>bif PE.notM r.2.2 then some ([],30) else (m127F ((r.1.1,r.1.2),PE.notM r.2.1.1,r.2.1.2)).bind fun r_1=>(m118F
 (r_1.1,r_1.2)).bind fun r=>some (r.1,r.2)
theorem le148 (x):Le (m148F x) (m148 x):=by
 unfold m148F m148
 repeat' first | with_reducible exact le113 _ | with_reducible exact le118 _ | with_reducible exact le127 _ | with_reducible exact Le.refl _ | intro _ | apply Le.bind | apply Le.cond | apply Le.nil | apply Le.loop | apply Le.elim
def m154F:(List Int×Int)→Option (List Int) :=
 fun x=>(mkM 0 (wrap IntKind.i64 (lenM x.1+1)) (nat_lit 8) 0).bind fun r=>(loopF (fun (s:Int×Int×List Int)=>bif PE.orM (ltM s.2.1 (lenM x.1))
 (PE.notM (eqM s.1 0)) then (m159 (x.1,s.2.1)).bind fun r_1=>(bif ltM (wrap IntKind.i64 (wrap IntKind.i64 (r_1*x.2)+s.1)) 0 then some ((-1),wrap
 IntKind.i64 (wrap IntKind.i64 (wrap IntKind.i64 (r_1*x.2)+s.1)+10000)) else bif leM 10000 (wrap IntKind.i64 (wrap IntKind.i64 (r_1*x.2)+s.1)) then
 (divM IntKind.i64 (wrap IntKind.i64 (wrap IntKind.i64 (r_1*x.2)+s.1)) 10000).bind fun r_2=>(remM (wrap IntKind.i64 (wrap IntKind.i64 (r_1*x.2)+s.1))
 10000).bind fun r=>some (r_2,r) else some (0,wrap IntKind.i64 (wrap IntKind.i64 (r_1*x.2)+s.1))).bind fun o=>(appM (nat_lit 8) s.2.2 [o.2]).bind fun
 r=>some (Sum.inl (o.1,wrap IntKind.i64 (s.2.1+1),r)) else some (Sum.inr s.2.2)) (0,0,r)).bind fun o=>(m153F o).bind fun r=>some r
theorem le154 (x):Le (m154F x) (m154 x):=by
 unfold m154F m154
 repeat' first | with_reducible exact le153 _ | with_reducible exact Le.refl _ | intro _ | apply Le.bind | apply Le.cond | apply Le.nil | apply Le.loop | apply Le.elim
def m114F:(List Int×List Int)→Option (List Int×List Int) :=
 fun x=>(mkM (lenM x.1) (lenM x.1) (nat_lit 8) 0).bind fun r=>(loopF (fun (s:Int×List Int×List Int)=>bif leM 0 s.1 then (idxM x.1 s.1).bind fun r_1
 => (appM (nat_lit 8) [r_1] s.2.1).bind fun r_2=>(m153F r_2).bind fun r_3=>((loopF (fun (s_1:Int×Int)=>bif ltM s_1.1 s_1.2 then (shrM IntKind.u64
 (wrap IntKind.u64 (wrap IntKind.i64 (s_1.1+s_1.2))) 1).bind fun r_4=>(m154F (x.2,wrap IntKind.i64 (wrap IntKind.i64 r_4+1))).bind fun r_5=>(m119F
 (r_5,r_3)).bind fun r=>bif PE.notM (ltM 0 r) then some (Sum.inl (wrap IntKind.i64 (wrap IntKind.i64 r_4+1),s_1.2)) else some (Sum.inl (s_1.1,wrap
 IntKind.i64 r_4)) else some (Sum.inr s_1.1)) (0,9999)).bind fun o=>some o).bind fun (ov:Int)=>(chkM s.1 (lenM s.2.2)).bind fun r_4=>(setM s.2.2 s.1
 fun (x:Int)=>some ov).bind fun r_5=>(chkM s.1 (lenM r_5)).bind fun r_6=>(idxM r_5 s.1).bind fun r_7=>(m154F (x.2,r_7)).bind fun r_8=>(m117F (r_3,
 r_8)).bind fun r=>some (Sum.inl (wrap IntKind.i64 (s.1-1),r,r_5)) else some (Sum.inr (s.2.1,s.2.2))) (wrap IntKind.i64 (lenM x.1-1),[],r)).bind fun
 o=>(m153F o.2).bind fun r=>some (r,o.1)
theorem le114 (x):Le (m114F x) (m114 x):=by
 unfold m114F m114
 repeat' first | with_reducible exact le117 _ | with_reducible exact le119 _ | with_reducible exact le153 _ | with_reducible exact le154 _ | with_reducible exact Le.refl _ | intro _ | apply Le.bind | apply Le.cond | apply Le.nil | apply Le.loop | apply Le.elim
def m112F:(List UInt8×List UInt8)→Option (List UInt8×Int) :=
 fun x=>(m113F (x.1,x.2)).bind fun r=>bif PE.notM r.2.2 then some ([],30) else (loopF (fun (s:List Int×List Int)=>bif ltM 0 (lenM s.2) then (m114F
 (s.1,s.2)).bind fun r=>some (Sum.inl (s.2,r.2)) else some (Sum.inr s.1)) (r.1.2,r.2.1.2)).bind fun o=>(m118F (false,o)).bind fun r=>some (r.1,r.2)
theorem le112 (x):Le (m112F x) (m112 x):=by
 unfold m112F m112
 repeat' first | with_reducible exact le113 _ | with_reducible exact le114 _ | with_reducible exact le118 _ | with_reducible exact Le.refl _ | intro _ | apply Le.bind | apply Le.cond | apply Le.nil | apply Le.loop | apply Le.elim
def m76F:(List UInt8×List UInt8)→Option (List UInt8×List UInt8×Int) :=
 fun x=>(m113F (x.1,x.2)).bind fun r=>bif PE.orM (PE.notM r.2.2) (eqM (lenM r.2.1.2) 0) then some ([],[],30) else (m114F (r.1.2,r.2.1.2)).bind fun r_1 =>
 (bif PE.andM r.1.1 (ltM 0 (lenM r_1.2)) then (m116 ()).bind fun r_2=>(m115F (r_1.1,r_2)).bind fun r_3=>(m117F (r.2.1.2,r_1.2)).bind fun r=>some (r_3,
 r) else some (r_1.1,r_1.2)).bind fun o=>(m118F (PE.notM (eqbM r.1.1 r.2.1.1),o.1)).bind fun r_2=>bif PE.notM (eqM r_2.2 0) then some ([],[],r_2.2)
 else (m118F (false,o.2)).bind fun r=>some (r_2.1,r.1,0)
theorem le76 (x):Le (m76F x) (m76 x):=by
 unfold m76F m76
 repeat' first | with_reducible exact le113 _ | with_reducible exact le114 _ | with_reducible exact le115 _ | with_reducible exact le117 _ | with_reducible exact le118 _ | with_reducible exact Le.refl _ | intro _ | apply Le.bind | apply Le.cond | apply Le.nil | apply Le.loop | apply Le.elim
def m182F:(List UInt8×List UInt8)→Option (List UInt8×Int) :=
 fun x=>(m76F (x.1,x.2)).bind fun r=>some (r.1,r.2.2)
theorem le182 (x):Le (m182F x) (m182 x):=by
 unfold m182F m182
 repeat' first | with_reducible exact le76 _ | with_reducible exact Le.refl _ | intro _ | apply Le.bind | apply Le.cond | apply Le.nil | apply Le.loop | apply Le.elim
def m78F:(List UInt8×List UInt8)→Option ((List UInt8×List UInt8)×Int) :=
 fun x=>(m111 x.1).bind fun r=>(bif PE.notM (PE.notM r) then m111 x.2 else some false).bind fun r_1=>(bif PE.orM (PE.orM (PE.notM r) (PE.notM r_1)) (eqsM
 x.2 [(48:UInt8)]) then some ([],[],40,PE.orM (PE.notM r) (PE.notM r_1)) else ((m77F (x.2,[(48:UInt8)])).bind fun r_2=>bif ltM r_2 0 then (bif PE.orM
 (PE.notM r) (PE.notM r_1) then some ([],PE.orM (PE.notM r) (PE.notM r_1)) else (m148F ([(48:UInt8)],x.1)).bind fun r=>some (r.1,PE.notM (eqM r.2
 0))).bind fun (ov:List UInt8×Bool)=>(bif ov.2 then some ([],ov.2) else (m148F ([(48:UInt8)],x.2)).bind fun r=>some (r.1,PE.notM (eqM r.2
 0))).bind fun (ov_1:List UInt8×Bool)=>some (ov.1,ov_1.1,ov_1.2) else some (x.1,x.2,PE.orM (PE.notM r) (PE.notM r_1))).bind fun o=>(bif o.2.2 then
 some ([],o.2.2) else (m112F (o.1,o.2.1)).bind fun r=>some (r.1,PE.notM (eqM r.2 0))).bind fun (ov:List UInt8×Bool)=>(bif ov.2 then some ([],ov.2)
 else (m182F (o.1,ov.1)).bind fun r=>some (r.1,PE.notM (eqM r.2 0))).bind fun (ov_1:List UInt8×Bool)=>(bif ov_1.2 then some ([],ov_1.2) else (m182F
 (o.2.1,ov.1)).bind fun r=>some (r.1,PE.notM (eqM r.2 0))).bind fun (ov:List UInt8×Bool)=>bif ov.2 then some ([],[],40,ov.2) else some (ov_1.1,
 ov.1,0,ov.2)).bind fun (ov:List UInt8×List UInt8×Int×Bool)=>some ((ov.1,ov.2.1),ov.2.2.1)
theorem le78 (x):Le (m78F x) (m78 x):=by
 unfold m78F m78
 repeat' first | with_reducible exact le77 _ | with_reducible exact le112 _ | with_reducible exact le148 _ | with_reducible exact le182 _ | with_reducible exact Le.refl _ | intro _ | apply Le.bind | apply Le.cond | apply Le.nil | apply Le.loop | apply Le.elim
def m42F:(Int×Int)→Option ((List UInt8×List UInt8)×Int) :=
 fun x=>(m79 x.1).bind fun r=>(m79 x.2).bind fun r_1=>(m78F (r,r_1)).bind fun r=>some ((r.1.1,r.1.2),r.2)
theorem le42 (x):Le (m42F x) (m42 x):=by
 unfold m42F m42
 repeat' first | with_reducible exact le78 _ | with_reducible exact Le.refl _ | intro _ | apply Le.bind | apply Le.cond | apply Le.nil | apply Le.loop | apply Le.elim
def m125F:(Int×Int)→Option (Int) :=
 fun x=>(loopF (fun (s:Int×Int)=>bif PE.notM (eqM s.2 0) then (remM s.1 s.2).bind fun r=>some (Sum.inl (s.2,r)) else some (Sum.inr s.1)) (x.1,
 x.2)).bind fun o=>some (max o (wrap IntKind.i64 (negM o)))
theorem le125 (x):Le (m125F x) (m125 x):=by
 unfold m125F m125
 repeat' first | with_reducible exact Le.refl _ | intro _ | apply Le.bind | apply Le.cond | apply Le.nil | apply Le.loop | apply Le.elim
def m94F:(Int×Int×Int)→Option (Int×Int×Int) :=
 fun x=>(m125F (x.1,x.2.1)).bind fun r=>(m125F (r,x.2.2)).bind fun r_1=>(bif ltM x.2.2 0 then some (wrap IntKind.i64 (negM r_1)) else some r_1).bind fun
 o=>(divM IntKind.i64 x.1 o).bind fun r_2=>(divM IntKind.i64 x.2.1 o).bind fun r_3=>(divM IntKind.i64 x.2.2 o).bind fun r=>some (r_2,r_3,r)
theorem le94 (x):Le (m94F x) (m94 x):=by
 unfold m94F m94
 repeat' first | with_reducible exact le125 _ | with_reducible exact Le.refl _ | intro _ | apply Le.bind | apply Le.cond | apply Le.nil | apply Le.loop | apply Le.elim
def m75F:(List UInt8×List UInt8)→Option (Bool) :=
 fun x=>(m111 x.1).bind fun r=>(bif PE.notM (PE.notM r) then m111 x.2 else some false).bind fun r_1=>(bif PE.notM (PE.orM (PE.notM r) (PE.notM r_1)) then
 m77F (x.2,[(48:UInt8)]) else some 0).bind fun r_2=>bif PE.orM (PE.orM (PE.notM r) (PE.notM r_1)) (leM r_2 0) then some false else (m112F (x.1,x.2)).bind
 fun r=>some (PE.andM (eqM r.2 0) (eqsM r.1 [(49:UInt8)]))
theorem le75 (x):Le (m75F x) (m75 x):=by
 unfold m75F m75
 repeat' first | with_reducible exact le77 _ | with_reducible exact le112 _ | with_reducible exact Le.refl _ | intro _ | apply Le.bind | apply Le.cond | apply Le.nil | apply Le.loop | apply Le.elim
def m181F:(List Int×List Int)→Option (List Int) :=
 fun x=>(loopF (fun (s:Int×List Int)=>bif leM 0 s.1 then (idxM x.2 s.1).bind fun r=>(bif ltM 0 (lenM s.2) then (appM (nat_lit 8) [0] s.2).bind fun r =>
 some r else some s.2).bind fun o=>(m154F (x.1,r)).bind fun r_1=>(m115F (o,r_1)).bind fun r=>some (Sum.inl (wrap IntKind.i64 (s.1-1),r)) else some
 (Sum.inr s.2)) (wrap IntKind.i64 (lenM x.2-1),[])).bind fun o=>some o
theorem le181 (x):Le (m181F x) (m181 x):=by
 unfold m181F m181
 repeat' first | with_reducible exact le115 _ | with_reducible exact le154 _ | with_reducible exact Le.refl _ | intro _ | apply Le.bind | apply Le.cond | apply Le.nil | apply Le.loop | apply Le.elim
def m147F:(List UInt8×List UInt8)→Option (List UInt8×Int) :=
 fun x=>(m113F (x.1,x.2)).bind fun r=>bif PE.notM r.2.2 then some ([],30) else (m181F (r.1.2,r.2.1.2)).bind fun r_1=>(m118F (PE.notM (eqbM r.1.1
 r.2.1.1),r_1)).bind fun r=>some (r.1,r.2)
theorem le147 (x):Le (m147F x) (m147 x):=by
 unfold m147F m147
 repeat' first | with_reducible exact le113 _ | with_reducible exact le118 _ | with_reducible exact le181 _ | with_reducible exact Le.refl _ | intro _ | apply Le.bind | apply Le.cond | apply Le.nil | apply Le.loop | apply Le.elim
def m96F:(List UInt8×List UInt8)→Option (List UInt8×Int) :=
 fun x=>(m113F (x.1,x.2)).bind fun r=>bif PE.notM r.2.2 then some ([],30) else (m127F ((r.1.1,r.1.2),r.2.1.1,r.2.1.2)).bind fun r_1=>(m118F (r_1.1,
 r_1.2)).bind fun r=>some (r.1,r.2)
theorem le96 (x):Le (m96F x) (m96 x):=by
 unfold m96F m96
 repeat' first | with_reducible exact le113 _ | with_reducible exact le118 _ | with_reducible exact le127 _ | with_reducible exact Le.refl _ | intro _ | apply Le.bind | apply Le.cond | apply Le.nil | apply Le.loop | apply Le.elim
def m67F:((List UInt8×List UInt8)×List UInt8×List UInt8)→Option ((List UInt8×List UInt8)×Int) :=
 fun x=>(loopF (fun (s:Int×Bool)=>bif ltM s.1 (lenM [(x.1.1,x.1.2),(x.2.1,x.2.2)]) then (idxM [(x.1.1,x.1.2),(x.2.1,x.2.2)] s.1).bind fun r=>(bif
 PE.notM s.2 then m75F (r.1,r.2) else some false).bind fun r=>some (Sum.inl (wrap IntKind.i64 (s.1+1),PE.orM s.2 (PE.notM r))) else some (Sum.inr s.2))
 (0,false)).bind fun o=>((bif o then some ([],o) else (m147F (x.1.1,x.2.2)).bind fun r=>some (r.1,PE.notM (eqM r.2 0))).bind fun (ov:List UInt8 ×
 Bool)=>some (ov.1,ov.2)).bind fun (ov:List UInt8×Bool)=>((bif ov.2 then some ([],ov.2) else (m147F (x.2.1,x.1.2)).bind fun r=>some (r.1,PE.notM
 (eqM r.2 0))).bind fun (ov:List UInt8×Bool)=>some (ov.1,ov.2)).bind fun (ov_1:List UInt8×Bool)=>(bif ov_1.2 then some ([],ov_1.2) else (m96F
 (ov.1,ov_1.1)).bind fun r=>some (r.1,PE.notM (eqM r.2 0))).bind fun (ov_2:List UInt8×Bool)=>(bif ov_2.2 then some ([],ov_2.2) else (m147F (x.1.2,
 x.2.2)).bind fun r=>some (r.1,PE.notM (eqM r.2 0))).bind fun (ov_3:List UInt8×Bool)=>(bif PE.orM ov_3.2 (eqsM ov_3.1 [(48:UInt8)]) then some ([],
 [],40,ov_3.2) else ((m77F (ov_3.1,[(48:UInt8)])).bind fun r=>bif ltM r 0 then (bif ov_3.2 then some ([],ov_3.2) else (m148F ([(48:UInt8)],
 ov_2.1)).bind fun r=>some (r.1,PE.notM (eqM r.2 0))).bind fun (ov_4:List UInt8×Bool)=>(bif ov_4.2 then some ([],ov_4.2) else (m148F ([(48:UInt8)],
 ov_3.1)).bind fun r=>some (r.1,PE.notM (eqM r.2 0))).bind fun (ov:List UInt8×Bool)=>some (ov_4.1,ov.1,ov.2) else some (ov_2.1,ov_3.1,
 ov_3.2)).bind fun o_1=>(bif o_1.2.2 then some ([],o_1.2.2) else (m112F (o_1.1,o_1.2.1)).bind fun r=>some (r.1,PE.notM (eqM r.2 0))).bind fun (ov_4 :
 List UInt8×Bool)=>(bif ov_4.2 then some ([],ov_4.2) else (m182F (o_1.1,ov_4.1)).bind fun r=>some (r.1,PE.notM (eqM r.2 0))).bind fun (ov_5:List
 UInt8×Bool)=>(bif ov_5.2 then some ([],ov_5.2) else (m182F (o_1.2.1,ov_4.1)).bind fun r=>some (r.1,PE.notM (eqM r.2 0))).bind fun (ov:List UInt8 ×
 Bool)=>bif ov.2 then some ([],[],40,ov.2) else some (ov_5.1,ov.1,0,ov.2)).bind fun (ov:List UInt8×List UInt8×Int×Bool)=>some ((ov.1,
 ov.2.1),ov.2.2.1)
theorem le67 (x):Le (m67F x) (m67 x):=by
 unfold m67F m67
 repeat' first | with_reducible exact le75 _ | with_reducible exact le77 _ | with_reducible exact le96 _ | with_reducible exact le112 _ | with_reducible exact le147 _ | with_reducible exact le148 _ | with_reducible exact le182 _ | with_reducible exact Le.refl _ | intro _ | apply Le.bind | apply Le.cond | apply Le.nil | apply Le.loop | apply Le.elim
def m33F:((Int×Int×List Int×List Int)×List (Int×Int))→Option ((List UInt8×List UInt8)×(List UInt8×List UInt8)×Int) :=
 fun x=>(m17F (x.1.1,x.1.2.1,x.1.2.2.1,x.1.2.2.2)).bind fun r=>(bif PE.notM (PE.notM r) then m45F x.2 else some false).bind fun r_1=>(bif PE.notM
 (PE.orM (PE.notM r) (PE.notM r_1)) then ((loopF (fun (s:Int)=>bif ltM s (lenM x.2) then (idxM x.2 s).bind fun r=>bif PE.orM (ltM x.1.1 r.1) (ltM x.1.2.1
 r.2) then some (Sum.inr (Sum.inr s)) else some (Sum.inl (wrap IntKind.i64 (s+1))) else some (Sum.inr (Sum.inl ()))) 0).bind fun o=>Sum.elim (fun (t :
 Unit)=>some (-1)) (fun (t:Int)=>some t) o).bind fun (ov:Int)=>some (leM 0 ov) else some false).bind fun (ov:Bool)=>bif PE.orM (PE.orM (PE.notM
 r) (PE.notM r_1)) ov then some (([],[]),([],[]),250) else (loopF (fun (s:Int×List (Int×Int×Int))=>bif ltM s.1 (lenM x.2) then (idxM x.2
 s.1).bind fun r_2=>(appM (nat_lit 24) s.2 [(r_2.1,r_2.2,1)]).bind fun r=>some (Sum.inl (wrap IntKind.i64 (s.1+1),r)) else some (Sum.inr s.2)) (0,
 [])).bind fun o=>((m42F (0,1)).bind fun r_2=>(loopF (fun (s:Int×List UInt8×List UInt8)=>bif ltM s.1 x.1.2.1 then (loopF (fun (s_1:Int×List
 UInt8×List UInt8)=>bif ltM s_1.1 x.1.1 then ((loopF (fun (s_2:Int×List (Int×Int×Int))=>bif ltM s_2.1 (lenM o) then ((chkM s_2.1 (lenM o)).bind
 fun r_3=>(idxM o s_2.1).bind fun r_4=>(remM (wrap IntKind.i64 (s_2.1+1)) (lenM o)).bind fun r_5=>(chkM r_5 (lenM o)).bind fun r_6=>(idxM o r_5).bind
 fun r_7=>(m66 ((s_1.1,s.1),(wrap IntKind.i64 (s_1.1+1),s.1),r_4.1,r_4.2.1,r_4.2.2)).bind fun r_8=>(m66 ((s_1.1,s.1),(wrap IntKind.i64 (s_1.1 +
 1),s.1),r_7.1,r_7.2.1,r_7.2.2)).bind fun r_9=>(bif leM 0 r_8 then ((bif PE.notM (eqM (lenM s_2.2) 0) then chkM (wrap IntKind.i64 (lenM s_2.2-1)) (lenM
 s_2.2) else some ()).bind fun r_10=>(bif PE.notM (eqM (lenM s_2.2) 0) then idxM s_2.2 (wrap IntKind.i64 (lenM s_2.2-1)) else some (0,0,0)).bind fun r_11
 => bif PE.orM (eqM (lenM s_2.2) 0) (PE.notM (PE.andM (eqM r_11.1 r_4.1) (PE.andM (eqM r_11.2.1 r_4.2.1) (eqM r_11.2.2 r_4.2.2)))) then (appM (nat_lit 24)
 s_2.2 [(r_4.1,r_4.2.1,r_4.2.2)]).bind fun r=>some r else some s_2.2).bind fun (ov:List (Int×Int×Int))=>some ov else some s_2.2).bind fun o_1 =>
 bif PE.orM (PE.andM (ltM 0 r_8) (ltM r_9 0)) (PE.andM (ltM r_8 0) (ltM 0 r_9)) then (m94F (wrap IntKind.i64 (wrap IntKind.i64 (r_4.1*r_9)-wrap IntKind.i64
 (r_7.1*r_8)),wrap IntKind.i64 (wrap IntKind.i64 (r_4.2.1*r_9)-wrap IntKind.i64 (r_7.2.1*r_8)),wrap IntKind.i64 (wrap IntKind.i64 (r_4.2.2*r_9) -
 wrap IntKind.i64 (r_7.2.2*r_8)))).bind fun r_10=>((bif PE.notM (eqM (lenM o_1) 0) then chkM (wrap IntKind.i64 (lenM o_1-1)) (lenM o_1) else some
 ()).bind fun r_11=>(bif PE.notM (eqM (lenM o_1) 0) then idxM o_1 (wrap IntKind.i64 (lenM o_1-1)) else some (0,0,0)).bind fun r_12=>bif PE.orM (eqM
 (lenM o_1) 0) (PE.notM (PE.andM (eqM r_12.1 r_10.1) (PE.andM (eqM r_12.2.1 r_10.2.1) (eqM r_12.2.2 r_10.2.2)))) then (appM (nat_lit 24) o_1 [(r_10.1,
 r_10.2.1,r_10.2.2)]).bind fun r=>some r else some o_1).bind fun (ov:List (Int×Int×Int))=>some ov else some o_1).bind fun o=>some (Sum.inl (wrap
 IntKind.i64 (s_2.1+1),o)) else some (Sum.inr s_2.2)) (0,[])).bind fun o_1=>bif eqM (lenM o_1) 0 then some o_1 else (loopF (fun (s_2:Int×List (Int ×
 Int×Int))=>bif ltM s_2.1 (lenM o_1) then ((chkM s_2.1 (lenM o_1)).bind fun r_3=>(idxM o_1 s_2.1).bind fun r_4=>(remM (wrap IntKind.i64 (s_2.1+1))
 (lenM o_1)).bind fun r_5=>(chkM r_5 (lenM o_1)).bind fun r_6=>(idxM o_1 r_5).bind fun r_7=>(m66 ((wrap IntKind.i64 (s_1.1+1),s.1),(wrap IntKind.i64
 (s_1.1+1),wrap IntKind.i64 (s.1+1)),r_4.1,r_4.2.1,r_4.2.2)).bind fun r_8=>(m66 ((wrap IntKind.i64 (s_1.1+1),s.1),(wrap IntKind.i64 (s_1.1+1),
 wrap IntKind.i64 (s.1+1)),r_7.1,r_7.2.1,r_7.2.2)).bind fun r_9=>(bif leM 0 r_8 then ((bif PE.notM (eqM (lenM s_2.2) 0) then chkM (wrap IntKind.i64
 (lenM s_2.2-1)) (lenM s_2.2) else some ()).bind fun r_10=>(bif PE.notM (eqM (lenM s_2.2) 0) then idxM s_2.2 (wrap IntKind.i64 (lenM s_2.2-1)) else some
 (0,0,0)).bind fun r_11=>bif PE.orM (eqM (lenM s_2.2) 0) (PE.notM (PE.andM (eqM r_11.1 r_4.1) (PE.andM (eqM r_11.2.1 r_4.2.1) (eqM r_11.2.2 r_4.2.2))))
 then (appM (nat_lit 24) s_2.2 [(r_4.1,r_4.2.1,r_4.2.2)]).bind fun r=>some r else some s_2.2).bind fun (ov:List (Int×Int×Int))=>some ov else some
 s_2.2).bind fun o_2=>bif PE.orM (PE.andM (ltM 0 r_8) (ltM r_9 0)) (PE.andM (ltM r_8 0) (ltM 0 r_9)) then (m94F (wrap IntKind.i64 (wrap IntKind.i64 (r_4.1 *
 r_9)-wrap IntKind.i64 (r_7.1*r_8)),wrap IntKind.i64 (wrap IntKind.i64 (r_4.2.1*r_9)-wrap IntKind.i64 (r_7.2.1*r_8)),wrap IntKind.i64 (wrap
 IntKind.i64 (r_4.2.2*r_9)-wrap IntKind.i64 (r_7.2.2*r_8)))).bind fun r_10=>((bif PE.notM (eqM (lenM o_2) 0) then chkM (wrap IntKind.i64 (lenM o_2 -
 1)) (lenM o_2) else some ()).bind fun r_11=>(bif PE.notM (eqM (lenM o_2) 0) then idxM o_2 (wrap IntKind.i64 (lenM o_2-1)) else some (0,0,0)).bind fun
 r_12=>bif PE.orM (eqM (lenM o_2) 0) (PE.notM (PE.andM (eqM r_12.1 r_10.1) (PE.andM (eqM r_12.2.1 r_10.2.1) (eqM r_12.2.2 r_10.2.2)))) then (appM (nat_lit
 24) o_2 [(r_10.1,r_10.2.1,r_10.2.2)]).bind fun r=>some r else some o_2).bind fun (ov:List (Int×Int×Int))=>some ov else some o_2).bind fun o =>
 some (Sum.inl (wrap IntKind.i64 (s_2.1+1),o)) else some (Sum.inr s_2.2)) (0,[])).bind fun o_2=>bif eqM (lenM o_2) 0 then some o_2 else (loopF (fun (s_2
 : Int×List (Int×Int×Int))=>bif ltM s_2.1 (lenM o_2) then ((chkM s_2.1 (lenM o_2)).bind fun r_3=>(idxM o_2 s_2.1).bind fun r_4=>(remM (wrap
 IntKind.i64 (s_2.1+1)) (lenM o_2)).bind fun r_5=>(chkM r_5 (lenM o_2)).bind fun r_6=>(idxM o_2 r_5).bind fun r_7=>(m66 ((wrap IntKind.i64 (s_1.1+1),
 wrap IntKind.i64 (s.1+1)),(s_1.1,s.1),r_4.1,r_4.2.1,r_4.2.2)).bind fun r_8=>(m66 ((wrap IntKind.i64 (s_1.1+1),wrap IntKind.i64 (s.1+1)),(s_1.1,
 s.1),r_7.1,r_7.2.1,r_7.2.2)).bind fun r_9=>(bif leM 0 r_8 then ((bif PE.notM (eqM (lenM s_2.2) 0) then chkM (wrap IntKind.i64 (lenM s_2.2-1)) (lenM
 s_2.2) else some ()).bind fun r_10=>(bif PE.notM (eqM (lenM s_2.2) 0) then idxM s_2.2 (wrap IntKind.i64 (lenM s_2.2-1)) else some (0,0,0)).bind fun r_11
 => bif PE.orM (eqM (lenM s_2.2) 0) (PE.notM (PE.andM (eqM r_11.1 r_4.1) (PE.andM (eqM r_11.2.1 r_4.2.1) (eqM r_11.2.2 r_4.2.2)))) then (appM (nat_lit 24)
 s_2.2 [(r_4.1,r_4.2.1,r_4.2.2)]).bind fun r=>some r else some s_2.2).bind fun (ov:List (Int×Int×Int))=>some ov else some s_2.2).bind fun o_3 =>
 bif PE.orM (PE.andM (ltM 0 r_8) (ltM r_9 0)) (PE.andM (ltM r_8 0) (ltM 0 r_9)) then (m94F (wrap IntKind.i64 (wrap IntKind.i64 (r_4.1*r_9)-wrap IntKind.i64
 (r_7.1*r_8)),wrap IntKind.i64 (wrap IntKind.i64 (r_4.2.1*r_9)-wrap IntKind.i64 (r_7.2.1*r_8)),wrap IntKind.i64 (wrap IntKind.i64 (r_4.2.2*r_9) -
 wrap IntKind.i64 (r_7.2.2*r_8)))).bind fun r_10=>((bif PE.notM (eqM (lenM o_3) 0) then chkM (wrap IntKind.i64 (lenM o_3-1)) (lenM o_3) else some
 ()).bind fun r_11=>(bif PE.notM (eqM (lenM o_3) 0) then idxM o_3 (wrap IntKind.i64 (lenM o_3-1)) else some (0,0,0)).bind fun r_12=>bif PE.orM (eqM
 (lenM o_3) 0) (PE.notM (PE.andM (eqM r_12.1 r_10.1) (PE.andM (eqM r_12.2.1 r_10.2.1) (eqM r_12.2.2 r_10.2.2)))) then (appM (nat_lit 24) o_3 [(r_10.1,
 r_10.2.1,r_10.2.2)]).bind fun r=>some r else some o_3).bind fun (ov:List (Int×Int×Int))=>some ov else some o_3).bind fun o=>some (Sum.inl (wrap
 IntKind.i64 (s_2.1+1),o)) else some (Sum.inr s_2.2)) (0,[])).bind fun o=>bif eqM (lenM o) 0 then some o else some o).bind fun o_1=>(loopF (fun (s_2 :
 Int×List UInt8×List UInt8)=>bif ltM s_2.1 (lenM o_1) then (chkM 0 (lenM o_1)).bind fun r_3=>(idxM o_1 0).bind fun r_4=>(chkM (wrap IntKind.i64
 (s_2.1-1)) (lenM o_1)).bind fun r_5=>(idxM o_1 (wrap IntKind.i64 (s_2.1-1))).bind fun r_6=>(chkM s_2.1 (lenM o_1)).bind fun r_7=>(idxM o_1
 s_2.1).bind fun r_8=>(((idxM x.1.2.2.1 (wrap IntKind.i64 (wrap IntKind.i64 (s.1*wrap IntKind.i64 (x.1.1+1))+s_1.1))).bind fun r=>some r).bind fun
 (ov_1:Int)=>(m66 ((wrap IntKind.i64 (s_1.1+1),s.1),(wrap IntKind.i64 (s_1.1+1),wrap IntKind.i64 (s.1+1)),r_4.1,r_4.2.1,r_4.2.2)).bind fun r_9
 => ((idxM x.1.2.2.1 (wrap IntKind.i64 (wrap IntKind.i64 (s.1*wrap IntKind.i64 (x.1.1+1))+wrap IntKind.i64 (s_1.1+1)))).bind fun r=>some r).bind fun
 (ov_2:Int)=>(m66 ((wrap IntKind.i64 (s_1.1+1),wrap IntKind.i64 (s.1+1)),(s_1.1,s.1),r_4.1,r_4.2.1,r_4.2.2)).bind fun r_10=>((idxM x.1.2.2.1
 (wrap IntKind.i64 (wrap IntKind.i64 (wrap IntKind.i64 (s.1+1)*wrap IntKind.i64 (x.1.1+1))+wrap IntKind.i64 (s_1.1+1)))).bind fun r=>some r).bind
 fun (ov_3:Int)=>(m66 ((s_1.1,s.1),(wrap IntKind.i64 (s_1.1+1),s.1),r_4.1,r_4.2.1,r_4.2.2)).bind fun r=>some (wrap IntKind.i64 (wrap IntKind.i64
 (wrap IntKind.i64 (0+wrap IntKind.i64 (ov_1*r_9))+wrap IntKind.i64 (ov_2*r_10))+wrap IntKind.i64 (ov_3*r)))).bind fun (ov_1:Int)=>(((idxM
 x.1.2.2.1 (wrap IntKind.i64 (wrap IntKind.i64 (s.1*wrap IntKind.i64 (x.1.1+1))+s_1.1))).bind fun r=>some r).bind fun (ov_2:Int)=>(m66 ((wrap
 IntKind.i64 (s_1.1+1),s.1),(wrap IntKind.i64 (s_1.1+1),wrap IntKind.i64 (s.1+1)),r_6.1,r_6.2.1,r_6.2.2)).bind fun r_9=>((idxM x.1.2.2.1 (wrap
 IntKind.i64 (wrap IntKind.i64 (s.1*wrap IntKind.i64 (x.1.1+1))+wrap IntKind.i64 (s_1.1+1)))).bind fun r=>some r).bind fun (ov_3:Int)=>(m66
 ((wrap IntKind.i64 (s_1.1+1),wrap IntKind.i64 (s.1+1)),(s_1.1,s.1),r_6.1,r_6.2.1,r_6.2.2)).bind fun r_10=>((idxM x.1.2.2.1 (wrap IntKind.i64 (wrap
 IntKind.i64 (wrap IntKind.i64 (s.1+1)*wrap IntKind.i64 (x.1.1+1))+wrap IntKind.i64 (s_1.1+1)))).bind fun r=>some r).bind fun (ov_4:Int)=>(m66
 ((s_1.1,s.1),(wrap IntKind.i64 (s_1.1+1),s.1),r_6.1,r_6.2.1,r_6.2.2)).bind fun r=>some (wrap IntKind.i64 (wrap IntKind.i64 (wrap IntKind.i64 (0 +
 wrap IntKind.i64 (ov_2*r_9))+wrap IntKind.i64 (ov_3*r_10))+wrap IntKind.i64 (ov_4*r)))).bind fun (ov_2:Int)=>(((idxM x.1.2.2.1 (wrap IntKind.i64
 (wrap IntKind.i64 (s.1*wrap IntKind.i64 (x.1.1+1))+s_1.1))).bind fun r=>some r).bind fun (ov_3:Int)=>(m66 ((wrap IntKind.i64 (s_1.1+1),s.1),
 (wrap IntKind.i64 (s_1.1+1),wrap IntKind.i64 (s.1+1)),r_8.1,r_8.2.1,r_8.2.2)).bind fun r_9=>((idxM x.1.2.2.1 (wrap IntKind.i64 (wrap IntKind.i64
 (s.1*wrap IntKind.i64 (x.1.1+1))+wrap IntKind.i64 (s_1.1+1)))).bind fun r=>some r).bind fun (ov_4:Int)=>(m66 ((wrap IntKind.i64 (s_1.1+1),
 wrap IntKind.i64 (s.1+1)),(s_1.1,s.1),r_8.1,r_8.2.1,r_8.2.2)).bind fun r_10=>((idxM x.1.2.2.1 (wrap IntKind.i64 (wrap IntKind.i64 (wrap IntKind.i64
 (s.1+1)*wrap IntKind.i64 (x.1.1+1))+wrap IntKind.i64 (s_1.1+1)))).bind fun r=>some r).bind fun (ov_5:Int)=>(m66 ((s_1.1,s.1),(wrap
 IntKind.i64 (s_1.1+1),s.1),r_8.1,r_8.2.1,r_8.2.2)).bind fun r=>some (wrap IntKind.i64 (wrap IntKind.i64 (wrap IntKind.i64 (0+wrap IntKind.i64 (ov_3
 * r_9))+wrap IntKind.i64 (ov_4*r_10))+wrap IntKind.i64 (ov_5*r)))).bind fun (ov_3:Int)=>(m42F (wrap IntKind.i64 (wrap IntKind.i64 (wrap
 IntKind.i64 (wrap IntKind.i64 (r_4.1*wrap IntKind.i64 (wrap IntKind.i64 (r_6.2.1*r_8.2.2)-wrap IntKind.i64 (r_6.2.2*r_8.2.1)))-wrap IntKind.i64
 (r_4.2.1*wrap IntKind.i64 (wrap IntKind.i64 (r_6.1*r_8.2.2)-wrap IntKind.i64 (r_6.2.2*r_8.1))))+wrap IntKind.i64 (r_4.2.2*wrap IntKind.i64 (wrap
 IntKind.i64 (r_6.1*r_8.2.1)-wrap IntKind.i64 (r_6.2.1*r_8.1))))*wrap IntKind.i64 (wrap IntKind.i64 (wrap IntKind.i64 (wrap IntKind.i64 (ov_1 *
 r_6.2.2)*r_8.2.2)+wrap IntKind.i64 (wrap IntKind.i64 (ov_2*r_4.2.2)*r_8.2.2))+wrap IntKind.i64 (wrap IntKind.i64 (ov_3*r_4.2.2)*r_6.2.2))),wrap
 IntKind.i64 (wrap IntKind.i64 (6*wrap IntKind.i64 (wrap IntKind.i64 (r_4.2.2*r_6.2.2)*r_8.2.2))*wrap IntKind.i64 (wrap IntKind.i64 (r_4.2.2*r_6.2.2)
 * r_8.2.2)))).bind fun r_9=>(m67F ((s_2.2.1,s_2.2.2),r_9.1.1,r_9.1.2)).bind fun r=>some (Sum.inl (wrap IntKind.i64 (s_2.1+1),r.1.1,r.1.2)) else
 some (Sum.inr (s_2.2.1,s_2.2.2))) (2,s_1.2.1,s_1.2.2)).bind fun o_2=>((loopF (fun (s_2:Int×List (Int×Int×Int))=>bif ltM s_2.1 (lenM o) then
 ((chkM s_2.1 (lenM o)).bind fun r_3=>(idxM o s_2.1).bind fun r_4=>(remM (wrap IntKind.i64 (s_2.1+1)) (lenM o)).bind fun r_5=>(chkM r_5 (lenM o)).bind
 fun r_6=>(idxM o r_5).bind fun r_7=>(m66 ((s_1.1,s.1),(wrap IntKind.i64 (s_1.1+1),wrap IntKind.i64 (s.1+1)),r_4.1,r_4.2.1,r_4.2.2)).bind fun r_8
 => (m66 ((s_1.1,s.1),(wrap IntKind.i64 (s_1.1+1),wrap IntKind.i64 (s.1+1)),r_7.1,r_7.2.1,r_7.2.2)).bind fun r_9=>(bif leM 0 r_8 then ((bif PE.notM
 (eqM (lenM s_2.2) 0) then chkM (wrap IntKind.i64 (lenM s_2.2-1)) (lenM s_2.2) else some ()).bind fun r_10=>(bif PE.notM (eqM (lenM s_2.2) 0) then idxM
 s_2.2 (wrap IntKind.i64 (lenM s_2.2-1)) else some (0,0,0)).bind fun r_11=>bif PE.orM (eqM (lenM s_2.2) 0) (PE.notM (PE.andM (eqM r_11.1 r_4.1) (PE.andM
 (eqM r_11.2.1 r_4.2.1) (eqM r_11.2.2 r_4.2.2)))) then (appM (nat_lit 24) s_2.2 [(r_4.1,r_4.2.1,r_4.2.2)]).bind fun r=>some r else some s_2.2).bind fun (ov
 : List (Int×Int×Int))=>some ov else some s_2.2).bind fun o_3=>bif PE.orM (PE.andM (ltM 0 r_8) (ltM r_9 0)) (PE.andM (ltM r_8 0) (ltM 0 r_9)) then
 (m94F (wrap IntKind.i64 (wrap IntKind.i64 (r_4.1*r_9)-wrap IntKind.i64 (r_7.1*r_8)),wrap IntKind.i64 (wrap IntKind.i64 (r_4.2.1*r_9)-wrap
 IntKind.i64 (r_7.2.1*r_8)),wrap IntKind.i64 (wrap IntKind.i64 (r_4.2.2*r_9)-wrap IntKind.i64 (r_7.2.2*r_8)))).bind fun r_10=>((bif PE.notM (eqM
 (lenM o_3) 0) then chkM (wrap IntKind.i64 (lenM o_3-1)) (lenM o_3) else some ()).bind fun r_11=>(bif PE.notM (eqM (lenM o_3) 0) then idxM o_3 (wrap
 IntKind.i64 (lenM o_3-1)) else some (0,0,0)).bind fun r_12=>bif PE.orM (eqM (lenM o_3) 0) (PE.notM (PE.andM (eqM r_12.1 r_10.1) (PE.andM (eqM r_12.2.1
 r_10.2.1) (eqM r_12.2.2 r_10.2.2)))) then (appM (nat_lit 24) o_3 [(r_10.1,r_10.2.1,r_10.2.2)]).bind fun r=>some r else some o_3).bind fun (ov:List (Int
 × Int×Int))=>some ov else some o_3).bind fun o=>some (Sum.inl (wrap IntKind.i64 (s_2.1+1),o)) else some (Sum.inr s_2.2)) (0,[])).bind fun o_3=>bif
 eqM (lenM o_3) 0 then some o_3 else (loopF (fun (s_2:Int×List (Int×Int×Int))=>bif ltM s_2.1 (lenM o_3) then ((chkM s_2.1 (lenM o_3)).bind fun r_3 =>
 (idxM o_3 s_2.1).bind fun r_4=>(remM (wrap IntKind.i64 (s_2.1+1)) (lenM o_3)).bind fun r_5=>(chkM r_5 (lenM o_3)).bind fun r_6=>(idxM o_3 r_5).bind
 fun r_7=>(m66 ((wrap IntKind.i64 (s_1.1+1),wrap IntKind.i64 (s.1+1)),(s_1.1,wrap IntKind.i64 (s.1+1)),r_4.1,r_4.2.1,r_4.2.2)).bind fun r_8 =>
 (m66 ((wrap IntKind.i64 (s_1.1+1),wrap IntKind.i64 (s.1+1)),(s_1.1,wrap IntKind.i64 (s.1+1)),r_7.1,r_7.2.1,r_7.2.2)).bind fun r_9=>(bif leM 0
 r_8 then ((bif PE.notM (eqM (lenM s_2.2) 0) then chkM (wrap IntKind.i64 (lenM s_2.2-1)) (lenM s_2.2) else some ()).bind fun r_10=>(bif PE.notM (eqM (lenM
 s_2.2) 0) then idxM s_2.2 (wrap IntKind.i64 (lenM s_2.2-1)) else some (0,0,0)).bind fun r_11=>bif PE.orM (eqM (lenM s_2.2) 0) (PE.notM (PE.andM (eqM
 r_11.1 r_4.1) (PE.andM (eqM r_11.2.1 r_4.2.1) (eqM r_11.2.2 r_4.2.2)))) then (appM (nat_lit 24) s_2.2 [(r_4.1,r_4.2.1,r_4.2.2)]).bind fun r=>some r else
 some s_2.2).bind fun (ov:List (Int×Int×Int))=>some ov else some s_2.2).bind fun o_4=>bif PE.orM (PE.andM (ltM 0 r_8) (ltM r_9 0)) (PE.andM (ltM r_8
 0) (ltM 0 r_9)) then (m94F (wrap IntKind.i64 (wrap IntKind.i64 (r_4.1*r_9)-wrap IntKind.i64 (r_7.1*r_8)),wrap IntKind.i64 (wrap IntKind.i64 (r_4.2.1 *
 r_9)-wrap IntKind.i64 (r_7.2.1*r_8)),wrap IntKind.i64 (wrap IntKind.i64 (r_4.2.2*r_9)-wrap IntKind.i64 (r_7.2.2*r_8)))).bind fun r_10=>((bif
 PE.notM (eqM (lenM o_4) 0) then chkM (wrap IntKind.i64 (lenM o_4-1)) (lenM o_4) else some ()).bind fun r_11=>(bif PE.notM (eqM (lenM o_4) 0) then idxM o_4
 (wrap IntKind.i64 (lenM o_4-1)) else some (0,0,0)).bind fun r_12=>bif PE.orM (eqM (lenM o_4) 0) (PE.notM (PE.andM (eqM r_12.1 r_10.1) (PE.andM (eqM
 r_12.2.1 r_10.2.1) (eqM r_12.2.2 r_10.2.2)))) then (appM (nat_lit 24) o_4 [(r_10.1,r_10.2.1,r_10.2.2)]).bind fun r=>some r else some o_4).bind fun (ov :
 List (Int×Int×Int))=>some ov else some o_4).bind fun o=>some (Sum.inl (wrap IntKind.i64 (s_2.1+1),o)) else some (Sum.inr s_2.2)) (0,[])).bind fun
 o_4=>bif eqM (lenM o_4) 0 then some o_4 else (loopF (fun (s_2:Int×List (Int×Int×Int))=>bif ltM s_2.1 (lenM o_4) then ((chkM s_2.1 (lenM o_4)).bind
 fun r_3=>(idxM o_4 s_2.1).bind fun r_4=>(remM (wrap IntKind.i64 (s_2.1+1)) (lenM o_4)).bind fun r_5=>(chkM r_5 (lenM o_4)).bind fun r_6=>(idxM o_4
 r_5).bind fun r_7=>(m66 ((s_1.1,wrap IntKind.i64 (s.1+1)),(s_1.1,s.1),r_4.1,r_4.2.1,r_4.2.2)).bind fun r_8=>(m66 ((s_1.1,wrap IntKind.i64 (s.1 +
 1)),(s_1.1,s.1),r_7.1,r_7.2.1,r_7.2.2)).bind fun r_9=>(bif leM 0 r_8 then ((bif PE.notM (eqM (lenM s_2.2) 0) then chkM (wrap IntKind.i64 (lenM s_2.2 -
 1)) (lenM s_2.2) else some ()).bind fun r_10=>(bif PE.notM (eqM (lenM s_2.2) 0) then idxM s_2.2 (wrap IntKind.i64 (lenM s_2.2-1)) else some (0,0,
 0)).bind fun r_11=>bif PE.orM (eqM (lenM s_2.2) 0) (PE.notM (PE.andM (eqM r_11.1 r_4.1) (PE.andM (eqM r_11.2.1 r_4.2.1) (eqM r_11.2.2 r_4.2.2)))) then (appM
 (nat_lit 24) s_2.2 [(r_4.1,r_4.2.1,r_4.2.2)]).bind fun r=>some r else some s_2.2).bind fun (ov:List (Int×Int×Int))=>some ov else some s_2.2).bind
 fun o_5=>bif PE.orM (PE.andM (ltM 0 r_8) (ltM r_9 0)) (PE.andM (ltM r_8 0) (ltM 0 r_9)) then (m94F (wrap IntKind.i64 (wrap IntKind.i64 (r_4.1*r_9)-wrap
 IntKind.i64 (r_7.1*r_8)),wrap IntKind.i64 (wrap IntKind.i64 (r_4.2.1*r_9)-wrap IntKind.i64 (r_7.2.1*r_8)),wrap IntKind.i64 (wrap IntKind.i64
 (r_4.2.2*r_9)-wrap IntKind.i64 (r_7.2.2*r_8)))).bind fun r_10=>((bif PE.notM (eqM (lenM o_5) 0) then chkM (wrap IntKind.i64 (lenM o_5-1)) (lenM o_5)
 else some ()).bind fun r_11=>(bif PE.notM (eqM (lenM o_5) 0) then idxM o_5 (wrap IntKind.i64 (lenM o_5-1)) else some (0,0,0)).bind fun r_12=>bif
 PE.orM (eqM (lenM o_5) 0) (PE.notM (PE.andM (eqM r_12.1 r_10.1) (PE.andM (eqM r_12.2.1 r_10.2.1) (eqM r_12.2.2 r_10.2.2)))) then (appM (nat_lit 24) o_5
 [(r_10.1,r_10.2.1,r_10.2.2)]).bind fun r=>some r else some o_5).bind fun (ov:List (Int×Int×Int))=>some ov else some o_5).bind fun o=>some
 (Sum.inl (wrap IntKind.i64 (s_2.1+1),o)) else some (Sum.inr s_2.2)) (0,[])).bind fun o=>bif eqM (lenM o) 0 then some o else some o).bind fun o_3 =>
 (loopF (fun (s_2:Int×List UInt8×List UInt8)=>bif ltM s_2.1 (lenM o_3) then (chkM 0 (lenM o_3)).bind fun r_3=>(idxM o_3 0).bind fun r_4=>(chkM
 (wrap IntKind.i64 (s_2.1-1)) (lenM o_3)).bind fun r_5=>(idxM o_3 (wrap IntKind.i64 (s_2.1-1))).bind fun r_6=>(chkM s_2.1 (lenM o_3)).bind fun r_7 =>
 (idxM o_3 s_2.1).bind fun r_8=>(((idxM x.1.2.2.1 (wrap IntKind.i64 (wrap IntKind.i64 (s.1*wrap IntKind.i64 (x.1.1+1))+s_1.1))).bind fun r=>some
 r).bind fun (ov_1:Int)=>(m66 ((wrap IntKind.i64 (s_1.1+1),wrap IntKind.i64 (s.1+1)),(s_1.1,wrap IntKind.i64 (s.1+1)),r_4.1,r_4.2.1,
 r_4.2.2)).bind fun r_9=>((idxM x.1.2.2.1 (wrap IntKind.i64 (wrap IntKind.i64 (wrap IntKind.i64 (s.1+1)*wrap IntKind.i64 (x.1.1+1))+wrap IntKind.i64
 (s_1.1+1)))).bind fun r=>some r).bind fun (ov_2:Int)=>(m66 ((s_1.1,wrap IntKind.i64 (s.1+1)),(s_1.1,s.1),r_4.1,r_4.2.1,r_4.2.2)).bind fun r_10
 => ((idxM x.1.2.2.1 (wrap IntKind.i64 (wrap IntKind.i64 (wrap IntKind.i64 (s.1+1)*wrap IntKind.i64 (x.1.1+1))+s_1.1))).bind fun r=>some r).bind fun
 (ov_3:Int)=>(m66 ((s_1.1,s.1),(wrap IntKind.i64 (s_1.1+1),wrap IntKind.i64 (s.1+1)),r_4.1,r_4.2.1,r_4.2.2)).bind fun r=>some (wrap IntKind.i64
 (wrap IntKind.i64 (wrap IntKind.i64 (0+wrap IntKind.i64 (ov_1*r_9))+wrap IntKind.i64 (ov_2*r_10))+wrap IntKind.i64 (ov_3*r)))).bind fun (ov_1 :
 Int)=>(((idxM x.1.2.2.1 (wrap IntKind.i64 (wrap IntKind.i64 (s.1*wrap IntKind.i64 (x.1.1+1))+s_1.1))).bind fun r=>some r).bind fun (ov_2:Int) =>
 (m66 ((wrap IntKind.i64 (s_1.1+1),wrap IntKind.i64 (s.1+1)),(s_1.1,wrap IntKind.i64 (s.1+1)),r_6.1,r_6.2.1,r_6.2.2)).bind fun r_9=>((idxM
 x.1.2.2.1 (wrap IntKind.i64 (wrap IntKind.i64 (wrap IntKind.i64 (s.1+1)*wrap IntKind.i64 (x.1.1+1))+wrap IntKind.i64 (s_1.1+1)))).bind fun r=>some
 r).bind fun (ov_3:Int)=>(m66 ((s_1.1,wrap IntKind.i64 (s.1+1)),(s_1.1,s.1),r_6.1,r_6.2.1,r_6.2.2)).bind fun r_10=>((idxM x.1.2.2.1 (wrap
 IntKind.i64 (wrap IntKind.i64 (wrap IntKind.i64 (s.1+1)*wrap IntKind.i64 (x.1.1+1))+s_1.1))).bind fun r=>some r).bind fun (ov_4:Int)=>(m66
 ((s_1.1,s.1),(wrap IntKind.i64 (s_1.1+1),wrap IntKind.i64 (s.1+1)),r_6.1,r_6.2.1,r_6.2.2)).bind fun r=>some (wrap IntKind.i64 (wrap IntKind.i64
 (wrap IntKind.i64 (0+wrap IntKind.i64 (ov_2*r_9))+wrap IntKind.i64 (ov_3*r_10))+wrap IntKind.i64 (ov_4*r)))).bind fun (ov_2:Int)=>(((idxM
 x.1.2.2.1 (wrap IntKind.i64 (wrap IntKind.i64 (s.1*wrap IntKind.i64 (x.1.1+1))+s_1.1))).bind fun r=>some r).bind fun (ov_3:Int)=>(m66 ((wrap
 IntKind.i64 (s_1.1+1),wrap IntKind.i64 (s.1+1)),(s_1.1,wrap IntKind.i64 (s.1+1)),r_8.1,r_8.2.1,r_8.2.2)).bind fun r_9=>((idxM x.1.2.2.1 (wrap
 IntKind.i64 (wrap IntKind.i64 (wrap IntKind.i64 (s.1+1)*wrap IntKind.i64 (x.1.1+1))+wrap IntKind.i64 (s_1.1+1)))).bind fun r=>some r).bind fun
 (ov_4:Int)=>(m66 ((s_1.1,wrap IntKind.i64 (s.1+1)),(s_1.1,s.1),r_8.1,r_8.2.1,r_8.2.2)).bind fun r_10=>((idxM x.1.2.2.1 (wrap IntKind.i64 (wrap
 IntKind.i64 (wrap IntKind.i64 (s.1+1)*wrap IntKind.i64 (x.1.1+1))+s_1.1))).bind fun r=>some r).bind fun (ov_5:Int)=>(m66 ((s_1.1,s.1),(wrap
 IntKind.i64 (s_1.1+1),wrap IntKind.i64 (s.1+1)),r_8.1,r_8.2.1,r_8.2.2)).bind fun r=>some (wrap IntKind.i64 (wrap IntKind.i64 (wrap IntKind.i64 (0 +
 wrap IntKind.i64 (ov_3*r_9))+wrap IntKind.i64 (ov_4*r_10))+wrap IntKind.i64 (ov_5*r)))).bind fun (ov_3:Int)=>(m42F (wrap IntKind.i64 (wrap
 IntKind.i64 (wrap IntKind.i64 (wrap IntKind.i64 (r_4.1*wrap IntKind.i64 (wrap IntKind.i64 (r_6.2.1*r_8.2.2)-wrap IntKind.i64 (r_6.2.2*r_8.2.1))) -
 wrap IntKind.i64 (r_4.2.1*wrap IntKind.i64 (wrap IntKind.i64 (r_6.1*r_8.2.2)-wrap IntKind.i64 (r_6.2.2*r_8.1))))+wrap IntKind.i64 (r_4.2.2*wrap
 IntKind.i64 (wrap IntKind.i64 (r_6.1*r_8.2.1)-wrap IntKind.i64 (r_6.2.1*r_8.1))))*wrap IntKind.i64 (wrap IntKind.i64 (wrap IntKind.i64 (wrap
 IntKind.i64 (ov_1*r_6.2.2)*r_8.2.2)+wrap IntKind.i64 (wrap IntKind.i64 (ov_2*r_4.2.2)*r_8.2.2))+wrap IntKind.i64 (wrap IntKind.i64 (ov_3 *
 r_4.2.2)*r_6.2.2))),wrap IntKind.i64 (wrap IntKind.i64 (6*wrap IntKind.i64 (wrap IntKind.i64 (r_4.2.2*r_6.2.2)*r_8.2.2))*wrap IntKind.i64 (wrap
 IntKind.i64 (r_4.2.2*r_6.2.2)*r_8.2.2)))).bind fun r_9=>(m67F ((s_2.2.1,s_2.2.2),r_9.1.1,r_9.1.2)).bind fun r=>some (Sum.inl (wrap IntKind.i64
 (s_2.1+1),r.1.1,r.1.2)) else some (Sum.inr (s_2.2.1,s_2.2.2))) (2,o_2.1,o_2.2)).bind fun o=>some (Sum.inl (wrap IntKind.i64 (s_1.1+1),o.1,o.2))
 else some (Sum.inr (s_1.2.1,s_1.2.2))) (0,s.2.1,s.2.2)).bind fun o=>some (Sum.inl (wrap IntKind.i64 (s.1+1),o.1,o.2)) else some (Sum.inr (s.2.1,
 s.2.2))) (0,r_2.1.1,r_2.1.2)).bind fun o=>some (o.1,o.2)).bind fun (ov_1:List UInt8×List UInt8)=>((m42F (0,1)).bind fun r_2=>(loopF (fun (s :
 Int×List UInt8×List UInt8)=>bif ltM s.1 x.1.2.1 then (loopF (fun (s_1:Int×List UInt8×List UInt8)=>bif ltM s_1.1 x.1.1 then ((loopF (fun (s_2 :
 Int×List (Int×Int×Int))=>bif ltM s_2.1 (lenM o) then ((chkM s_2.1 (lenM o)).bind fun r_3=>(idxM o s_2.1).bind fun r_4=>(remM (wrap IntKind.i64
 (s_2.1+1)) (lenM o)).bind fun r_5=>(chkM r_5 (lenM o)).bind fun r_6=>(idxM o r_5).bind fun r_7=>(m66 ((s_1.1,s.1),(wrap IntKind.i64 (s_1.1+1),
 s.1),r_4.1,r_4.2.1,r_4.2.2)).bind fun r_8=>(m66 ((s_1.1,s.1),(wrap IntKind.i64 (s_1.1+1),s.1),r_7.1,r_7.2.1,r_7.2.2)).bind fun r_9=>(bif leM 0
 r_8 then ((bif PE.notM (eqM (lenM s_2.2) 0) then chkM (wrap IntKind.i64 (lenM s_2.2-1)) (lenM s_2.2) else some ()).bind fun r_10=>(bif PE.notM (eqM (lenM
 s_2.2) 0) then idxM s_2.2 (wrap IntKind.i64 (lenM s_2.2-1)) else some (0,0,0)).bind fun r_11=>bif PE.orM (eqM (lenM s_2.2) 0) (PE.notM (PE.andM (eqM
 r_11.1 r_4.1) (PE.andM (eqM r_11.2.1 r_4.2.1) (eqM r_11.2.2 r_4.2.2)))) then (appM (nat_lit 24) s_2.2 [(r_4.1,r_4.2.1,r_4.2.2)]).bind fun r=>some r else
 some s_2.2).bind fun (ov:List (Int×Int×Int))=>some ov else some s_2.2).bind fun o_1=>bif PE.orM (PE.andM (ltM 0 r_8) (ltM r_9 0)) (PE.andM (ltM r_8
 0) (ltM 0 r_9)) then (m94F (wrap IntKind.i64 (wrap IntKind.i64 (r_4.1*r_9)-wrap IntKind.i64 (r_7.1*r_8)),wrap IntKind.i64 (wrap IntKind.i64 (r_4.2.1 *
 r_9)-wrap IntKind.i64 (r_7.2.1*r_8)),wrap IntKind.i64 (wrap IntKind.i64 (r_4.2.2*r_9)-wrap IntKind.i64 (r_7.2.2*r_8)))).bind fun r_10=>((bif
 PE.notM (eqM (lenM o_1) 0) then chkM (wrap IntKind.i64 (lenM o_1-1)) (lenM o_1) else some ()).bind fun r_11=>(bif PE.notM (eqM (lenM o_1) 0) then idxM o_1
 (wrap IntKind.i64 (lenM o_1-1)) else some (0,0,0)).bind fun r_12=>bif PE.orM (eqM (lenM o_1) 0) (PE.notM (PE.andM (eqM r_12.1 r_10.1) (PE.andM (eqM
 r_12.2.1 r_10.2.1) (eqM r_12.2.2 r_10.2.2)))) then (appM (nat_lit 24) o_1 [(r_10.1,r_10.2.1,r_10.2.2)]).bind fun r=>some r else some o_1).bind fun (ov :
 List (Int×Int×Int))=>some ov else some o_1).bind fun o=>some (Sum.inl (wrap IntKind.i64 (s_2.1+1),o)) else some (Sum.inr s_2.2)) (0,[])).bind fun
 o_1=>bif eqM (lenM o_1) 0 then some o_1 else (loopF (fun (s_2:Int×List (Int×Int×Int))=>bif ltM s_2.1 (lenM o_1) then ((chkM s_2.1 (lenM o_1)).bind
 fun r_3=>(idxM o_1 s_2.1).bind fun r_4=>(remM (wrap IntKind.i64 (s_2.1+1)) (lenM o_1)).bind fun r_5=>(chkM r_5 (lenM o_1)).bind fun r_6=>(idxM o_1
 r_5).bind fun r_7=>(m66 ((wrap IntKind.i64 (s_1.1+1),s.1),(wrap IntKind.i64 (s_1.1+1),wrap IntKind.i64 (s.1+1)),r_4.1,r_4.2.1,r_4.2.2)).bind fun
 r_8=>(m66 ((wrap IntKind.i64 (s_1.1+1),s.1),(wrap IntKind.i64 (s_1.1+1),wrap IntKind.i64 (s.1+1)),r_7.1,r_7.2.1,r_7.2.2)).bind fun r_9=>(bif
 leM 0 r_8 then ((bif PE.notM (eqM (lenM s_2.2) 0) then chkM (wrap IntKind.i64 (lenM s_2.2-1)) (lenM s_2.2) else some ()).bind fun r_10=>(bif PE.notM (eqM
 (lenM s_2.2) 0) then idxM s_2.2 (wrap IntKind.i64 (lenM s_2.2-1)) else some (0,0,0)).bind fun r_11=>bif PE.orM (eqM (lenM s_2.2) 0) (PE.notM (PE.andM
 (eqM r_11.1 r_4.1) (PE.andM (eqM r_11.2.1 r_4.2.1) (eqM r_11.2.2 r_4.2.2)))) then (appM (nat_lit 24) s_2.2 [(r_4.1,r_4.2.1,r_4.2.2)]).bind fun r=>some r
 else some s_2.2).bind fun (ov:List (Int×Int×Int))=>some ov else some s_2.2).bind fun o_2=>bif PE.orM (PE.andM (ltM 0 r_8) (ltM r_9 0)) (PE.andM (ltM
 r_8 0) (ltM 0 r_9)) then (m94F (wrap IntKind.i64 (wrap IntKind.i64 (r_4.1*r_9)-wrap IntKind.i64 (r_7.1*r_8)),wrap IntKind.i64 (wrap IntKind.i64
 (r_4.2.1*r_9)-wrap IntKind.i64 (r_7.2.1*r_8)),wrap IntKind.i64 (wrap IntKind.i64 (r_4.2.2*r_9)-wrap IntKind.i64 (r_7.2.2*r_8)))).bind fun r_10 =>
 ((bif PE.notM (eqM (lenM o_2) 0) then chkM (wrap IntKind.i64 (lenM o_2-1)) (lenM o_2) else some ()).bind fun r_11=>(bif PE.notM (eqM (lenM o_2) 0) then
 idxM o_2 (wrap IntKind.i64 (lenM o_2-1)) else some (0,0,0)).bind fun r_12=>bif PE.orM (eqM (lenM o_2) 0) (PE.notM (PE.andM (eqM r_12.1 r_10.1) (PE.andM
 (eqM r_12.2.1 r_10.2.1) (eqM r_12.2.2 r_10.2.2)))) then (appM (nat_lit 24) o_2 [(r_10.1,r_10.2.1,r_10.2.2)]).bind fun r=>some r else some o_2).bind fun
 (ov:List (Int×Int×Int))=>some ov else some o_2).bind fun o=>some (Sum.inl (wrap IntKind.i64 (s_2.1+1),o)) else some (Sum.inr s_2.2)) (0,
 [])).bind fun o_2=>bif eqM (lenM o_2) 0 then some o_2 else (loopF (fun (s_2:Int×List (Int×Int×Int))=>bif ltM s_2.1 (lenM o_2) then ((chkM s_2.1
 (lenM o_2)).bind fun r_3=>(idxM o_2 s_2.1).bind fun r_4=>(remM (wrap IntKind.i64 (s_2.1+1)) (lenM o_2)).bind fun r_5=>(chkM r_5 (lenM o_2)).bind fun
 r_6=>(idxM o_2 r_5).bind fun r_7=>(m66 ((wrap IntKind.i64 (s_1.1+1),wrap IntKind.i64 (s.1+1)),(s_1.1,s.1),r_4.1,r_4.2.1,r_4.2.2)).bind fun r_8
 => (m66 ((wrap IntKind.i64 (s_1.1+1),wrap IntKind.i64 (s.1+1)),(s_1.1,s.1),r_7.1,r_7.2.1,r_7.2.2)).bind fun r_9=>(bif leM 0 r_8 then ((bif PE.notM
 (eqM (lenM s_2.2) 0) then chkM (wrap IntKind.i64 (lenM s_2.2-1)) (lenM s_2.2) else some ()).bind fun r_10=>(bif PE.notM (eqM (lenM s_2.2) 0) then idxM
 s_2.2 (wrap IntKind.i64 (lenM s_2.2-1)) else some (0,0,0)).bind fun r_11=>bif PE.orM (eqM (lenM s_2.2) 0) (PE.notM (PE.andM (eqM r_11.1 r_4.1) (PE.andM
 (eqM r_11.2.1 r_4.2.1) (eqM r_11.2.2 r_4.2.2)))) then (appM (nat_lit 24) s_2.2 [(r_4.1,r_4.2.1,r_4.2.2)]).bind fun r=>some r else some s_2.2).bind fun (ov
 : List (Int×Int×Int))=>some ov else some s_2.2).bind fun o_3=>bif PE.orM (PE.andM (ltM 0 r_8) (ltM r_9 0)) (PE.andM (ltM r_8 0) (ltM 0 r_9)) then
 (m94F (wrap IntKind.i64 (wrap IntKind.i64 (r_4.1*r_9)-wrap IntKind.i64 (r_7.1*r_8)),wrap IntKind.i64 (wrap IntKind.i64 (r_4.2.1*r_9)-wrap
 IntKind.i64 (r_7.2.1*r_8)),wrap IntKind.i64 (wrap IntKind.i64 (r_4.2.2*r_9)-wrap IntKind.i64 (r_7.2.2*r_8)))).bind fun r_10=>((bif PE.notM (eqM
 (lenM o_3) 0) then chkM (wrap IntKind.i64 (lenM o_3-1)) (lenM o_3) else some ()).bind fun r_11=>(bif PE.notM (eqM (lenM o_3) 0) then idxM o_3 (wrap
 IntKind.i64 (lenM o_3-1)) else some (0,0,0)).bind fun r_12=>bif PE.orM (eqM (lenM o_3) 0) (PE.notM (PE.andM (eqM r_12.1 r_10.1) (PE.andM (eqM r_12.2.1
 r_10.2.1) (eqM r_12.2.2 r_10.2.2)))) then (appM (nat_lit 24) o_3 [(r_10.1,r_10.2.1,r_10.2.2)]).bind fun r=>some r else some o_3).bind fun (ov:List (Int
 × Int×Int))=>some ov else some o_3).bind fun o=>some (Sum.inl (wrap IntKind.i64 (s_2.1+1),o)) else some (Sum.inr s_2.2)) (0,[])).bind fun o=>bif
 eqM (lenM o) 0 then some o else some o).bind fun o_1=>(loopF (fun (s_2:Int×List UInt8×List UInt8)=>bif ltM s_2.1 (lenM o_1) then (chkM 0 (lenM
 o_1)).bind fun r_3=>(idxM o_1 0).bind fun r_4=>(chkM (wrap IntKind.i64 (s_2.1-1)) (lenM o_1)).bind fun r_5=>(idxM o_1 (wrap IntKind.i64 (s_2.1 -
 1))).bind fun r_6=>(chkM s_2.1 (lenM o_1)).bind fun r_7=>(idxM o_1 s_2.1).bind fun r_8=>(((idxM x.1.2.2.2 (wrap IntKind.i64 (wrap IntKind.i64 (s.1 *
 wrap IntKind.i64 (x.1.1+1))+s_1.1))).bind fun r=>some r).bind fun (ov_2:Int)=>(m66 ((wrap IntKind.i64 (s_1.1+1),s.1),(wrap IntKind.i64 (s_1.1 +
 1),wrap IntKind.i64 (s.1+1)),r_4.1,r_4.2.1,r_4.2.2)).bind fun r_9=>((idxM x.1.2.2.2 (wrap IntKind.i64 (wrap IntKind.i64 (s.1*wrap IntKind.i64 (x.1.1
 + 1))+wrap IntKind.i64 (s_1.1+1)))).bind fun r=>some r).bind fun (ov_3:Int)=>(m66 ((wrap IntKind.i64 (s_1.1+1),wrap IntKind.i64 (s.1+1)),
 (s_1.1,s.1),r_4.1,r_4.2.1,r_4.2.2)).bind fun r_10=>((idxM x.1.2.2.2 (wrap IntKind.i64 (wrap IntKind.i64 (wrap IntKind.i64 (s.1+1)*wrap IntKind.i64
 (x.1.1+1))+wrap IntKind.i64 (s_1.1+1)))).bind fun r=>some r).bind fun (ov_4:Int)=>(m66 ((s_1.1,s.1),(wrap IntKind.i64 (s_1.1+1),s.1),r_4.1,
 r_4.2.1,r_4.2.2)).bind fun r=>some (wrap IntKind.i64 (wrap IntKind.i64 (wrap IntKind.i64 (0+wrap IntKind.i64 (ov_2*r_9))+wrap IntKind.i64 (ov_3 *
 r_10))+wrap IntKind.i64 (ov_4*r)))).bind fun (ov_2:Int)=>(((idxM x.1.2.2.2 (wrap IntKind.i64 (wrap IntKind.i64 (s.1*wrap IntKind.i64 (x.1.1+1)) +
 s_1.1))).bind fun r=>some r).bind fun (ov_3:Int)=>(m66 ((wrap IntKind.i64 (s_1.1+1),s.1),(wrap IntKind.i64 (s_1.1+1),wrap IntKind.i64 (s.1+1)),
 r_6.1,r_6.2.1,r_6.2.2)).bind fun r_9=>((idxM x.1.2.2.2 (wrap IntKind.i64 (wrap IntKind.i64 (s.1*wrap IntKind.i64 (x.1.1+1))+wrap IntKind.i64 (s_1.1
 + 1)))).bind fun r=>some r).bind fun (ov_4:Int)=>(m66 ((wrap IntKind.i64 (s_1.1+1),wrap IntKind.i64 (s.1+1)),(s_1.1,s.1),r_6.1,r_6.2.1,
 r_6.2.2)).bind fun r_10=>((idxM x.1.2.2.2 (wrap IntKind.i64 (wrap IntKind.i64 (wrap IntKind.i64 (s.1+1)*wrap IntKind.i64 (x.1.1+1))+wrap IntKind.i64
 (s_1.1+1)))).bind fun r=>some r).bind fun (ov_5:Int)=>(m66 ((s_1.1,s.1),(wrap IntKind.i64 (s_1.1+1),s.1),r_6.1,r_6.2.1,r_6.2.2)).bind fun r =>
 some (wrap IntKind.i64 (wrap IntKind.i64 (wrap IntKind.i64 (0+wrap IntKind.i64 (ov_3*r_9))+wrap IntKind.i64 (ov_4*r_10))+wrap IntKind.i64 (ov_5 *
 r)))).bind fun (ov_3:Int)=>(((idxM x.1.2.2.2 (wrap IntKind.i64 (wrap IntKind.i64 (s.1*wrap IntKind.i64 (x.1.1+1))+s_1.1))).bind fun r=>some
 r).bind fun (ov_4:Int)=>(m66 ((wrap IntKind.i64 (s_1.1+1),s.1),(wrap IntKind.i64 (s_1.1+1),wrap IntKind.i64 (s.1+1)),r_8.1,r_8.2.1,
 r_8.2.2)).bind fun r_9=>((idxM x.1.2.2.2 (wrap IntKind.i64 (wrap IntKind.i64 (s.1*wrap IntKind.i64 (x.1.1+1))+wrap IntKind.i64 (s_1.1+1)))).bind fun
 r=>some r).bind fun (ov_5:Int)=>(m66 ((wrap IntKind.i64 (s_1.1+1),wrap IntKind.i64 (s.1+1)),(s_1.1,s.1),r_8.1,r_8.2.1,r_8.2.2)).bind fun r_10
 => ((idxM x.1.2.2.2 (wrap IntKind.i64 (wrap IntKind.i64 (wrap IntKind.i64 (s.1+1)*wrap IntKind.i64 (x.1.1+1))+wrap IntKind.i64 (s_1.1+1)))).bind fun
 r=>some r).bind fun (ov_6:Int)=>(m66 ((s_1.1,s.1),(wrap IntKind.i64 (s_1.1+1),s.1),r_8.1,r_8.2.1,r_8.2.2)).bind fun r=>some (wrap IntKind.i64
 (wrap IntKind.i64 (wrap IntKind.i64 (0+wrap IntKind.i64 (ov_4*r_9))+wrap IntKind.i64 (ov_5*r_10))+wrap IntKind.i64 (ov_6*r)))).bind fun (ov_4 :
 Int)=>(m42F (wrap IntKind.i64 (wrap IntKind.i64 (wrap IntKind.i64 (wrap IntKind.i64 (r_4.1*wrap IntKind.i64 (wrap IntKind.i64 (r_6.2.1*r_8.2.2)-wrap
 IntKind.i64 (r_6.2.2*r_8.2.1)))-wrap IntKind.i64 (r_4.2.1*wrap IntKind.i64 (wrap IntKind.i64 (r_6.1*r_8.2.2)-wrap IntKind.i64 (r_6.2.2*r_8.1)))) +
 wrap IntKind.i64 (r_4.2.2*wrap IntKind.i64 (wrap IntKind.i64 (r_6.1*r_8.2.1)-wrap IntKind.i64 (r_6.2.1*r_8.1))))*wrap IntKind.i64 (wrap IntKind.i64
 (wrap IntKind.i64 (wrap IntKind.i64 (ov_2*r_6.2.2)*r_8.2.2)+wrap IntKind.i64 (wrap IntKind.i64 (ov_3*r_4.2.2)*r_8.2.2))+wrap IntKind.i64 (wrap
 IntKind.i64 (ov_4*r_4.2.2)*r_6.2.2))),wrap IntKind.i64 (wrap IntKind.i64 (6*wrap IntKind.i64 (wrap IntKind.i64 (r_4.2.2*r_6.2.2)*r_8.2.2))*wrap
 IntKind.i64 (wrap IntKind.i64 (r_4.2.2*r_6.2.2)*r_8.2.2)))).bind fun r_9=>(m67F ((s_2.2.1,s_2.2.2),r_9.1.1,r_9.1.2)).bind fun r=>some (Sum.inl
 (wrap IntKind.i64 (s_2.1+1),r.1.1,r.1.2)) else some (Sum.inr (s_2.2.1,s_2.2.2))) (2,s_1.2.1,s_1.2.2)).bind fun o_2=>((loopF (fun (s_2:Int×List
 (Int×Int×Int))=>bif ltM s_2.1 (lenM o) then ((chkM s_2.1 (lenM o)).bind fun r_3=>(idxM o s_2.1).bind fun r_4=>(remM (wrap IntKind.i64 (s_2.1+1))
 (lenM o)).bind fun r_5=>(chkM r_5 (lenM o)).bind fun r_6=>(idxM o r_5).bind fun r_7=>(m66 ((s_1.1,s.1),(wrap IntKind.i64 (s_1.1+1),wrap IntKind.i64
 (s.1+1)),r_4.1,r_4.2.1,r_4.2.2)).bind fun r_8=>(m66 ((s_1.1,s.1),(wrap IntKind.i64 (s_1.1+1),wrap IntKind.i64 (s.1+1)),r_7.1,r_7.2.1,
 r_7.2.2)).bind fun r_9=>(bif leM 0 r_8 then ((bif PE.notM (eqM (lenM s_2.2) 0) then chkM (wrap IntKind.i64 (lenM s_2.2-1)) (lenM s_2.2) else some ()).bind
 fun r_10=>(bif PE.notM (eqM (lenM s_2.2) 0) then idxM s_2.2 (wrap IntKind.i64 (lenM s_2.2-1)) else some (0,0,0)).bind fun r_11=>bif PE.orM (eqM (lenM
 s_2.2) 0) (PE.notM (PE.andM (eqM r_11.1 r_4.1) (PE.andM (eqM r_11.2.1 r_4.2.1) (eqM r_11.2.2 r_4.2.2)))) then (appM (nat_lit 24) s_2.2 [(r_4.1,r_4.2.1,
 r_4.2.2)]).bind fun r=>some r else some s_2.2).bind fun (ov:List (Int×Int×Int))=>some ov else some s_2.2).bind fun o_3=>bif PE.orM (PE.andM (ltM 0
 r_8) (ltM r_9 0)) (PE.andM (ltM r_8 0) (ltM 0 r_9)) then (m94F (wrap IntKind.i64 (wrap IntKind.i64 (r_4.1*r_9)-wrap IntKind.i64 (r_7.1*r_8)),wrap
 IntKind.i64 (wrap IntKind.i64 (r_4.2.1*r_9)-wrap IntKind.i64 (r_7.2.1*r_8)),wrap IntKind.i64 (wrap IntKind.i64 (r_4.2.2*r_9)-wrap IntKind.i64
 (r_7.2.2*r_8)))).bind fun r_10=>((bif PE.notM (eqM (lenM o_3) 0) then chkM (wrap IntKind.i64 (lenM o_3-1)) (lenM o_3) else some ()).bind fun r_11 =>
 (bif PE.notM (eqM (lenM o_3) 0) then idxM o_3 (wrap IntKind.i64 (lenM o_3-1)) else some (0,0,0)).bind fun r_12=>bif PE.orM (eqM (lenM o_3) 0) (PE.notM
 (PE.andM (eqM r_12.1 r_10.1) (PE.andM (eqM r_12.2.1 r_10.2.1) (eqM r_12.2.2 r_10.2.2)))) then (appM (nat_lit 24) o_3 [(r_10.1,r_10.2.1,r_10.2.2)]).bind fun
 r=>some r else some o_3).bind fun (ov:List (Int×Int×Int))=>some ov else some o_3).bind fun o=>some (Sum.inl (wrap IntKind.i64 (s_2.1+1),o))
 else some (Sum.inr s_2.2)) (0,[])).bind fun o_3=>bif eqM (lenM o_3) 0 then some o_3 else (loopF (fun (s_2:Int×List (Int×Int×Int))=>bif ltM s_2.1
 (lenM o_3) then ((chkM s_2.1 (lenM o_3)).bind fun r_3=>(idxM o_3 s_2.1).bind fun r_4=>(remM (wrap IntKind.i64 (s_2.1+1)) (lenM o_3)).bind fun r_5 =>
 (chkM r_5 (lenM o_3)).bind fun r_6=>(idxM o_3 r_5).bind fun r_7=>(m66 ((wrap IntKind.i64 (s_1.1+1),wrap IntKind.i64 (s.1+1)),(s_1.1,wrap
 IntKind.i64 (s.1+1)),r_4.1,r_4.2.1,r_4.2.2)).bind fun r_8=>(m66 ((wrap IntKind.i64 (s_1.1+1),wrap IntKind.i64 (s.1+1)),(s_1.1,wrap IntKind.i64
 (s.1+1)),r_7.1,r_7.2.1,r_7.2.2)).bind fun r_9=>(bif leM 0 r_8 then ((bif PE.notM (eqM (lenM s_2.2) 0) then chkM (wrap IntKind.i64 (lenM s_2.2-1))
 (lenM s_2.2) else some ()).bind fun r_10=>(bif PE.notM (eqM (lenM s_2.2) 0) then idxM s_2.2 (wrap IntKind.i64 (lenM s_2.2-1)) else some (0,0,0)).bind
 fun r_11=>bif PE.orM (eqM (lenM s_2.2) 0) (PE.notM (PE.andM (eqM r_11.1 r_4.1) (PE.andM (eqM r_11.2.1 r_4.2.1) (eqM r_11.2.2 r_4.2.2)))) then (appM (nat_lit
 24) s_2.2 [(r_4.1,r_4.2.1,r_4.2.2)]).bind fun r=>some r else some s_2.2).bind fun (ov:List (Int×Int×Int))=>some ov else some s_2.2).bind fun o_4
 => bif PE.orM (PE.andM (ltM 0 r_8) (ltM r_9 0)) (PE.andM (ltM r_8 0) (ltM 0 r_9)) then (m94F (wrap IntKind.i64 (wrap IntKind.i64 (r_4.1*r_9)-wrap
 IntKind.i64 (r_7.1*r_8)),wrap IntKind.i64 (wrap IntKind.i64 (r_4.2.1*r_9)-wrap IntKind.i64 (r_7.2.1*r_8)),wrap IntKind.i64 (wrap IntKind.i64
 (r_4.2.2*r_9)-wrap IntKind.i64 (r_7.2.2*r_8)))).bind fun r_10=>((bif PE.notM (eqM (lenM o_4) 0) then chkM (wrap IntKind.i64 (lenM o_4-1)) (lenM o_4)
 else some ()).bind fun r_11=>(bif PE.notM (eqM (lenM o_4) 0) then idxM o_4 (wrap IntKind.i64 (lenM o_4-1)) else some (0,0,0)).bind fun r_12=>bif
 PE.orM (eqM (lenM o_4) 0) (PE.notM (PE.andM (eqM r_12.1 r_10.1) (PE.andM (eqM r_12.2.1 r_10.2.1) (eqM r_12.2.2 r_10.2.2)))) then (appM (nat_lit 24) o_4
 [(r_10.1,r_10.2.1,r_10.2.2)]).bind fun r=>some r else some o_4).bind fun (ov:List (Int×Int×Int))=>some ov else some o_4).bind fun o=>some
 (Sum.inl (wrap IntKind.i64 (s_2.1+1),o)) else some (Sum.inr s_2.2)) (0,[])).bind fun o_4=>bif eqM (lenM o_4) 0 then some o_4 else (loopF (fun (s_2:Int
 × List (Int×Int×Int))=>bif ltM s_2.1 (lenM o_4) then ((chkM s_2.1 (lenM o_4)).bind fun r_3=>(idxM o_4 s_2.1).bind fun r_4=>(remM (wrap IntKind.i64
 (s_2.1+1)) (lenM o_4)).bind fun r_5=>(chkM r_5 (lenM o_4)).bind fun r_6=>(idxM o_4 r_5).bind fun r_7=>(m66 ((s_1.1,wrap IntKind.i64 (s.1+1)),
 (s_1.1,s.1),r_4.1,r_4.2.1,r_4.2.2)).bind fun r_8=>(m66 ((s_1.1,wrap IntKind.i64 (s.1+1)),(s_1.1,s.1),r_7.1,r_7.2.1,r_7.2.2)).bind fun r_9 =>
 (bif leM 0 r_8 then ((bif PE.notM (eqM (lenM s_2.2) 0) then chkM (wrap IntKind.i64 (lenM s_2.2-1)) (lenM s_2.2) else some ()).bind fun r_10=>(bif PE.notM
 (eqM (lenM s_2.2) 0) then idxM s_2.2 (wrap IntKind.i64 (lenM s_2.2-1)) else some (0,0,0)).bind fun r_11=>bif PE.orM (eqM (lenM s_2.2) 0) (PE.notM
 (PE.andM (eqM r_11.1 r_4.1) (PE.andM (eqM r_11.2.1 r_4.2.1) (eqM r_11.2.2 r_4.2.2)))) then (appM (nat_lit 24) s_2.2 [(r_4.1,r_4.2.1,r_4.2.2)]).bind fun r =>
 some r else some s_2.2).bind fun (ov:List (Int×Int×Int))=>some ov else some s_2.2).bind fun o_5=>bif PE.orM (PE.andM (ltM 0 r_8) (ltM r_9 0))
 (PE.andM (ltM r_8 0) (ltM 0 r_9)) then (m94F (wrap IntKind.i64 (wrap IntKind.i64 (r_4.1*r_9)-wrap IntKind.i64 (r_7.1*r_8)),wrap IntKind.i64 (wrap
 IntKind.i64 (r_4.2.1*r_9)-wrap IntKind.i64 (r_7.2.1*r_8)),wrap IntKind.i64 (wrap IntKind.i64 (r_4.2.2*r_9)-wrap IntKind.i64 (r_7.2.2*r_8)))).bind
 fun r_10=>((bif PE.notM (eqM (lenM o_5) 0) then chkM (wrap IntKind.i64 (lenM o_5-1)) (lenM o_5) else some ()).bind fun r_11=>(bif PE.notM (eqM (lenM
 o_5) 0) then idxM o_5 (wrap IntKind.i64 (lenM o_5-1)) else some (0,0,0)).bind fun r_12=>bif PE.orM (eqM (lenM o_5) 0) (PE.notM (PE.andM (eqM r_12.1
 r_10.1) (PE.andM (eqM r_12.2.1 r_10.2.1) (eqM r_12.2.2 r_10.2.2)))) then (appM (nat_lit 24) o_5 [(r_10.1,r_10.2.1,r_10.2.2)]).bind fun r=>some r else some
 o_5).bind fun (ov:List (Int×Int×Int))=>some ov else some o_5).bind fun o=>some (Sum.inl (wrap IntKind.i64 (s_2.1+1),o)) else some (Sum.inr
 s_2.2)) (0,[])).bind fun o=>bif eqM (lenM o) 0 then some o else some o).bind fun o_3=>(loopF (fun (s_2:Int×List UInt8×List UInt8)=>bif ltM s_2.1
 (lenM o_3) then (chkM 0 (lenM o_3)).bind fun r_3=>(idxM o_3 0).bind fun r_4=>(chkM (wrap IntKind.i64 (s_2.1-1)) (lenM o_3)).bind fun r_5=>(idxM o_3
 (wrap IntKind.i64 (s_2.1-1))).bind fun r_6=>(chkM s_2.1 (lenM o_3)).bind fun r_7=>(idxM o_3 s_2.1).bind fun r_8=>(((idxM x.1.2.2.2 (wrap IntKind.i64
 (wrap IntKind.i64 (s.1*wrap IntKind.i64 (x.1.1+1))+s_1.1))).bind fun r=>some r).bind fun (ov_2:Int)=>(m66 ((wrap IntKind.i64 (s_1.1+1),wrap
 IntKind.i64 (s.1+1)),(s_1.1,wrap IntKind.i64 (s.1+1)),r_4.1,r_4.2.1,r_4.2.2)).bind fun r_9=>((idxM x.1.2.2.2 (wrap IntKind.i64 (wrap IntKind.i64
 (wrap IntKind.i64 (s.1+1)*wrap IntKind.i64 (x.1.1+1))+wrap IntKind.i64 (s_1.1+1)))).bind fun r=>some r).bind fun (ov_3:Int)=>(m66 ((s_1.1,
 wrap IntKind.i64 (s.1+1)),(s_1.1,s.1),r_4.1,r_4.2.1,r_4.2.2)).bind fun r_10=>((idxM x.1.2.2.2 (wrap IntKind.i64 (wrap IntKind.i64 (wrap IntKind.i64
 (s.1+1)*wrap IntKind.i64 (x.1.1+1))+s_1.1))).bind fun r=>some r).bind fun (ov_4:Int)=>(m66 ((s_1.1,s.1),(wrap IntKind.i64 (s_1.1+1),wrap
 IntKind.i64 (s.1+1)),r_4.1,r_4.2.1,r_4.2.2)).bind fun r=>some (wrap IntKind.i64 (wrap IntKind.i64 (wrap IntKind.i64 (0+wrap IntKind.i64 (ov_2*r_9))
 + wrap IntKind.i64 (ov_3*r_10))+wrap IntKind.i64 (ov_4*r)))).bind fun (ov_2:Int)=>(((idxM x.1.2.2.2 (wrap IntKind.i64 (wrap IntKind.i64 (s.1*wrap
 IntKind.i64 (x.1.1+1))+s_1.1))).bind fun r=>some r).bind fun (ov_3:Int)=>(m66 ((wrap IntKind.i64 (s_1.1+1),wrap IntKind.i64 (s.1+1)),(s_1.1,
 wrap IntKind.i64 (s.1+1)),r_6.1,r_6.2.1,r_6.2.2)).bind fun r_9=>((idxM x.1.2.2.2 (wrap IntKind.i64 (wrap IntKind.i64 (wrap IntKind.i64 (s.1+1)*wrap
 IntKind.i64 (x.1.1+1))+wrap IntKind.i64 (s_1.1+1)))).bind fun r=>some r).bind fun (ov_4:Int)=>(m66 ((s_1.1,wrap IntKind.i64 (s.1+1)),(s_1.1,
 s.1),r_6.1,r_6.2.1,r_6.2.2)).bind fun r_10=>((idxM x.1.2.2.2 (wrap IntKind.i64 (wrap IntKind.i64 (wrap IntKind.i64 (s.1+1)*wrap IntKind.i64 (x.1.1 +
 1))+s_1.1))).bind fun r=>some r).bind fun (ov_5:Int)=>(m66 ((s_1.1,s.1),(wrap IntKind.i64 (s_1.1+1),wrap IntKind.i64 (s.1+1)),r_6.1,r_6.2.1,
 r_6.2.2)).bind fun r=>some (wrap IntKind.i64 (wrap IntKind.i64 (wrap IntKind.i64 (0+wrap IntKind.i64 (ov_3*r_9))+wrap IntKind.i64 (ov_4*r_10)) +
 wrap IntKind.i64 (ov_5*r)))).bind fun (ov_3:Int)=>(((idxM x.1.2.2.2 (wrap IntKind.i64 (wrap IntKind.i64 (s.1*wrap IntKind.i64 (x.1.1+1)) +
 s_1.1))).bind fun r=>some r).bind fun (ov_4:Int)=>(m66 ((wrap IntKind.i64 (s_1.1+1),wrap IntKind.i64 (s.1+1)),(s_1.1,wrap IntKind.i64 (s.1+1)),
 r_8.1,r_8.2.1,r_8.2.2)).bind fun r_9=>((idxM x.1.2.2.2 (wrap IntKind.i64 (wrap IntKind.i64 (wrap IntKind.i64 (s.1+1)*wrap IntKind.i64 (x.1.1+1)) +
 wrap IntKind.i64 (s_1.1+1)))).bind fun r=>some r).bind fun (ov_5:Int)=>(m66 ((s_1.1,wrap IntKind.i64 (s.1+1)),(s_1.1,s.1),r_8.1,r_8.2.1,
 r_8.2.2)).bind fun r_10=>((idxM x.1.2.2.2 (wrap IntKind.i64 (wrap IntKind.i64 (wrap IntKind.i64 (s.1+1)*wrap IntKind.i64 (x.1.1+1))+s_1.1))).bind
 fun r=>some r).bind fun (ov_6:Int)=>(m66 ((s_1.1,s.1),(wrap IntKind.i64 (s_1.1+1),wrap IntKind.i64 (s.1+1)),r_8.1,r_8.2.1,r_8.2.2)).bind fun r
 => some (wrap IntKind.i64 (wrap IntKind.i64 (wrap IntKind.i64 (0+wrap IntKind.i64 (ov_4*r_9))+wrap IntKind.i64 (ov_5*r_10))+wrap IntKind.i64 (ov_6 *
 r)))).bind fun (ov_4:Int)=>(m42F (wrap IntKind.i64 (wrap IntKind.i64 (wrap IntKind.i64 (wrap IntKind.i64 (r_4.1*wrap IntKind.i64 (wrap IntKind.i64
 (r_6.2.1*r_8.2.2)-wrap IntKind.i64 (r_6.2.2*r_8.2.1)))-wrap IntKind.i64 (r_4.2.1*wrap IntKind.i64 (wrap IntKind.i64 (r_6.1*r_8.2.2)-wrap
 IntKind.i64 (r_6.2.2*r_8.1))))+wrap IntKind.i64 (r_4.2.2*wrap IntKind.i64 (wrap IntKind.i64 (r_6.1*r_8.2.1)-wrap IntKind.i64 (r_6.2.1*r_8.1)))) *
 wrap IntKind.i64 (wrap IntKind.i64 (wrap IntKind.i64 (wrap IntKind.i64 (ov_2*r_6.2.2)*r_8.2.2)+wrap IntKind.i64 (wrap IntKind.i64 (ov_3*r_4.2.2) *
 r_8.2.2))+wrap IntKind.i64 (wrap IntKind.i64 (ov_4*r_4.2.2)*r_6.2.2))),wrap IntKind.i64 (wrap IntKind.i64 (6*wrap IntKind.i64 (wrap IntKind.i64
 (r_4.2.2*r_6.2.2)*r_8.2.2))*wrap IntKind.i64 (wrap IntKind.i64 (r_4.2.2*r_6.2.2)*r_8.2.2)))).bind fun r_9=>(m67F ((s_2.2.1,s_2.2.2),r_9.1.1,
 r_9.1.2)).bind fun r=>some (Sum.inl (wrap IntKind.i64 (s_2.1+1),r.1.1,r.1.2)) else some (Sum.inr (s_2.2.1,s_2.2.2))) (2,o_2.1,o_2.2)).bind fun o =>
 some (Sum.inl (wrap IntKind.i64 (s_1.1+1),o.1,o.2)) else some (Sum.inr (s_1.2.1,s_1.2.2))) (0,s.2.1,s.2.2)).bind fun o=>some (Sum.inl (wrap
 IntKind.i64 (s.1+1),o.1,o.2)) else some (Sum.inr (s.2.1,s.2.2))) (0,r_2.1.1,r_2.1.2)).bind fun o=>some (o.1,o.2)).bind fun (ov:List UInt8×List
 UInt8)=>some ((ov_1.1,ov_1.2),(ov.1,ov.2),0)
theorem le33 (x):Le (m33F x) (m33 x):=by
 unfold m33F m33
 repeat' first | with_reducible exact le17 _ | with_reducible exact le42 _ | with_reducible exact le45 _ | with_reducible exact le67 _ | with_reducible exact le94 _ | with_reducible exact Le.refl _ | intro _ | apply Le.bind | apply Le.cond | apply Le.nil | apply Le.loop | apply Le.elim
def m35F:((Int×Int×List Int×List Int)×Int)→Option ((List UInt8×List UInt8)×(List UInt8×List UInt8)×Int) :=
 fun x=>(m17F (x.1.1,x.1.2.1,x.1.2.2.1,x.1.2.2.2)).bind fun r=>(bif PE.notM (PE.notM r) then m51 (x.2,0,100) else some false).bind fun r_1=>bif PE.orM
 (PE.notM r) (PE.notM r_1) then some (([],[]),([],[]),250) else ((m42F (0,1)).bind fun r_2=>(loopF (fun (s:Int×List UInt8×List UInt8)=>bif ltM
 s.1 x.1.2.1 then (loopF (fun (s_1:Int×List UInt8×List UInt8)=>bif ltM s_1.1 x.1.1 then (((idxM x.1.2.2.1 (wrap IntKind.i64 (wrap IntKind.i64 (s.1 *
 wrap IntKind.i64 (x.1.1+1))+s_1.1))).bind fun r=>some r).bind fun (ov:Int)=>((idxM x.1.2.2.1 (wrap IntKind.i64 (wrap IntKind.i64 (s.1*wrap
 IntKind.i64 (x.1.1+1))+wrap IntKind.i64 (s_1.1+1)))).bind fun r=>some r).bind fun (ov_1:Int)=>((idxM x.1.2.2.1 (wrap IntKind.i64 (wrap IntKind.i64
 (wrap IntKind.i64 (s.1+1)*wrap IntKind.i64 (x.1.1+1))+wrap IntKind.i64 (s_1.1+1)))).bind fun r=>some r).bind fun (ov_2:Int)=>(sortI [ov,ov_1,
 ov_2]).bind fun r_3=>(chkM 0 (lenM r_3)).bind fun r_4=>(idxM r_3 0).bind fun r_5=>bif ltM x.2 r_5 then (m42F (1,2)).bind fun r_6=>(m67F ((s_1.2.1,
 s_1.2.2),r_6.1.1,r_6.1.2)).bind fun r=>some (r.1.1,r.1.2) else (chkM 1 (lenM r_3)).bind fun r_6=>(idxM r_3 1).bind fun r_7=>bif ltM x.2 r_7 then
 (m42F (1,2)).bind fun r_8=>(m67F ((s_1.2.1,s_1.2.2),r_8.1.1,r_8.1.2)).bind fun r_9=>(chkM 0 (lenM r_3)).bind fun r_10=>(idxM r_3 0).bind fun r_11 =>
 (chkM 0 (lenM r_3)).bind fun r_12=>(idxM r_3 0).bind fun r_13=>(chkM 1 (lenM r_3)).bind fun r_14=>(idxM r_3 1).bind fun r_15=>(chkM 0 (lenM r_3)).bind
 fun r_16=>(idxM r_3 0).bind fun r_17=>(chkM 2 (lenM r_3)).bind fun r_18=>(idxM r_3 2).bind fun r_19=>(chkM 0 (lenM r_3)).bind fun r_20=>(idxM r_3
 0).bind fun r_21=>(m42F (wrap IntKind.i64 (wrap IntKind.i64 (negM (wrap IntKind.i64 (x.2-r_11)))*wrap IntKind.i64 (x.2-r_13)),wrap IntKind.i64 (wrap
 IntKind.i64 (2*wrap IntKind.i64 (r_15-r_17))*wrap IntKind.i64 (r_19-r_21)))).bind fun r_22=>(m67F ((r_9.1.1,r_9.1.2),r_22.1.1,r_22.1.2)).bind fun
 r=>some (r.1.1,r.1.2) else (chkM 2 (lenM r_3)).bind fun r_8=>(idxM r_3 2).bind fun r_9=>bif ltM x.2 r_9 then (chkM 2 (lenM r_3)).bind fun r_10=>(idxM
 r_3 2).bind fun r_11=>(chkM 2 (lenM r_3)).bind fun r_12=>(idxM r_3 2).bind fun r_13=>(chkM 2 (lenM r_3)).bind fun r_14=>(idxM r_3 2).bind fun r_15 =>
 (chkM 0 (lenM r_3)).bind fun r_16=>(idxM r_3 0).bind fun r_17=>(chkM 2 (lenM r_3)).bind fun r_18=>(idxM r_3 2).bind fun r_19=>(chkM 1 (lenM r_3)).bind
 fun r_20=>(idxM r_3 1).bind fun r_21=>(m42F (wrap IntKind.i64 (wrap IntKind.i64 (r_11-x.2)*wrap IntKind.i64 (r_13-x.2)),wrap IntKind.i64 (wrap
 IntKind.i64 (2*wrap IntKind.i64 (r_15-r_17))*wrap IntKind.i64 (r_19-r_21)))).bind fun r_22=>(m67F ((s_1.2.1,s_1.2.2),r_22.1.1,r_22.1.2)).bind fun
 r=>some (r.1.1,r.1.2) else some (s_1.2.1,s_1.2.2)).bind fun o=>(((idxM x.1.2.2.1 (wrap IntKind.i64 (wrap IntKind.i64 (s.1*wrap IntKind.i64 (x.1.1 +
 1))+s_1.1))).bind fun r=>some r).bind fun (ov:Int)=>((idxM x.1.2.2.1 (wrap IntKind.i64 (wrap IntKind.i64 (wrap IntKind.i64 (s.1+1)*wrap
 IntKind.i64 (x.1.1+1))+wrap IntKind.i64 (s_1.1+1)))).bind fun r=>some r).bind fun (ov_1:Int)=>((idxM x.1.2.2.1 (wrap IntKind.i64 (wrap IntKind.i64
 (wrap IntKind.i64 (s.1+1)*wrap IntKind.i64 (x.1.1+1))+s_1.1))).bind fun r=>some r).bind fun (ov_2:Int)=>(sortI [ov,ov_1,ov_2]).bind fun r_3 =>
 (chkM 0 (lenM r_3)).bind fun r_4=>(idxM r_3 0).bind fun r_5=>bif ltM x.2 r_5 then (m42F (1,2)).bind fun r_6=>(m67F ((o.1,o.2),r_6.1.1,r_6.1.2)).bind
 fun r=>some (r.1.1,r.1.2) else (chkM 1 (lenM r_3)).bind fun r_6=>(idxM r_3 1).bind fun r_7=>bif ltM x.2 r_7 then (m42F (1,2)).bind fun r_8=>(m67F
 ((o.1,o.2),r_8.1.1,r_8.1.2)).bind fun r_9=>(chkM 0 (lenM r_3)).bind fun r_10=>(idxM r_3 0).bind fun r_11=>(chkM 0 (lenM r_3)).bind fun r_12=>(idxM
 r_3 0).bind fun r_13=>(chkM 1 (lenM r_3)).bind fun r_14=>(idxM r_3 1).bind fun r_15=>(chkM 0 (lenM r_3)).bind fun r_16=>(idxM r_3 0).bind fun r_17 =>
 (chkM 2 (lenM r_3)).bind fun r_18=>(idxM r_3 2).bind fun r_19=>(chkM 0 (lenM r_3)).bind fun r_20=>(idxM r_3 0).bind fun r_21=>(m42F (wrap IntKind.i64
 (wrap IntKind.i64 (negM (wrap IntKind.i64 (x.2-r_11)))*wrap IntKind.i64 (x.2-r_13)),wrap IntKind.i64 (wrap IntKind.i64 (2*wrap IntKind.i64 (r_15 -
 r_17))*wrap IntKind.i64 (r_19-r_21)))).bind fun r_22=>(m67F ((r_9.1.1,r_9.1.2),r_22.1.1,r_22.1.2)).bind fun r=>some (r.1.1,r.1.2) else (chkM 2
 (lenM r_3)).bind fun r_8=>(idxM r_3 2).bind fun r_9=>bif ltM x.2 r_9 then (chkM 2 (lenM r_3)).bind fun r_10=>(idxM r_3 2).bind fun r_11=>(chkM 2 (lenM
 r_3)).bind fun r_12=>(idxM r_3 2).bind fun r_13=>(chkM 2 (lenM r_3)).bind fun r_14=>(idxM r_3 2).bind fun r_15=>(chkM 0 (lenM r_3)).bind fun r_16 =>
 (idxM r_3 0).bind fun r_17=>(chkM 2 (lenM r_3)).bind fun r_18=>(idxM r_3 2).bind fun r_19=>(chkM 1 (lenM r_3)).bind fun r_20=>(idxM r_3 1).bind fun
 r_21=>(m42F (wrap IntKind.i64 (wrap IntKind.i64 (r_11-x.2)*wrap IntKind.i64 (r_13-x.2)),wrap IntKind.i64 (wrap IntKind.i64 (2*wrap IntKind.i64
 (r_15-r_17))*wrap IntKind.i64 (r_19-r_21)))).bind fun r_22=>(m67F ((o.1,o.2),r_22.1.1,r_22.1.2)).bind fun r=>some (r.1.1,r.1.2) else some (o.1,
 o.2)).bind fun o=>some (Sum.inl (wrap IntKind.i64 (s_1.1+1),o.1,o.2)) else some (Sum.inr (s_1.2.1,s_1.2.2))) (0,s.2.1,s.2.2)).bind fun o=>some
 (Sum.inl (wrap IntKind.i64 (s.1+1),o.1,o.2)) else some (Sum.inr (s.2.1,s.2.2))) (0,r_2.1.1,r_2.1.2)).bind fun o=>some (o.1,o.2)).bind fun (ov:List
 UInt8×List UInt8)=>((m42F (0,1)).bind fun r_2=>(loopF (fun (s:Int×List UInt8×List UInt8)=>bif ltM s.1 x.1.2.1 then (loopF (fun (s_1:Int ×
 List UInt8×List UInt8)=>bif ltM s_1.1 x.1.1 then (((idxM x.1.2.2.2 (wrap IntKind.i64 (wrap IntKind.i64 (s.1*wrap IntKind.i64 (x.1.1+1)) +
 s_1.1))).bind fun r=>some r).bind fun (ov_1:Int)=>((idxM x.1.2.2.2 (wrap IntKind.i64 (wrap IntKind.i64 (s.1*wrap IntKind.i64 (x.1.1+1))+wrap
 IntKind.i64 (s_1.1+1)))).bind fun r=>some r).bind fun (ov_2:Int)=>((idxM x.1.2.2.2 (wrap IntKind.i64 (wrap IntKind.i64 (wrap IntKind.i64 (s.1+1) *
 wrap IntKind.i64 (x.1.1+1))+wrap IntKind.i64 (s_1.1+1)))).bind fun r=>some r).bind fun (ov_3:Int)=>(sortI [ov_1,ov_2,ov_3]).bind fun r_3 =>
 (chkM 0 (lenM r_3)).bind fun r_4=>(idxM r_3 0).bind fun r_5=>bif ltM x.2 r_5 then (m42F (1,2)).bind fun r_6=>(m67F ((s_1.2.1,s_1.2.2),r_6.1.1,
 r_6.1.2)).bind fun r=>some (r.1.1,r.1.2) else (chkM 1 (lenM r_3)).bind fun r_6=>(idxM r_3 1).bind fun r_7=>bif ltM x.2 r_7 then (m42F (1,2)).bind fun
 r_8=>(m67F ((s_1.2.1,s_1.2.2),r_8.1.1,r_8.1.2)).bind fun r_9=>(chkM 0 (lenM r_3)).bind fun r_10=>(idxM r_3 0).bind fun r_11=>(chkM 0 (lenM
 r_3)).bind fun r_12=>(idxM r_3 0).bind fun r_13=>(chkM 1 (lenM r_3)).bind fun r_14=>(idxM r_3 1).bind fun r_15=>(chkM 0 (lenM r_3)).bind fun r_16 =>
 (idxM r_3 0).bind fun r_17=>(chkM 2 (lenM r_3)).bind fun r_18=>(idxM r_3 2).bind fun r_19=>(chkM 0 (lenM r_3)).bind fun r_20=>(idxM r_3 0).bind fun
 r_21=>(m42F (wrap IntKind.i64 (wrap IntKind.i64 (negM (wrap IntKind.i64 (x.2-r_11)))*wrap IntKind.i64 (x.2-r_13)),wrap IntKind.i64 (wrap IntKind.i64
 (2*wrap IntKind.i64 (r_15-r_17))*wrap IntKind.i64 (r_19-r_21)))).bind fun r_22=>(m67F ((r_9.1.1,r_9.1.2),r_22.1.1,r_22.1.2)).bind fun r=>some
 (r.1.1,r.1.2) else (chkM 2 (lenM r_3)).bind fun r_8=>(idxM r_3 2).bind fun r_9=>bif ltM x.2 r_9 then (chkM 2 (lenM r_3)).bind fun r_10=>(idxM r_3
 2).bind fun r_11=>(chkM 2 (lenM r_3)).bind fun r_12=>(idxM r_3 2).bind fun r_13=>(chkM 2 (lenM r_3)).bind fun r_14=>(idxM r_3 2).bind fun r_15 =>
 (chkM 0 (lenM r_3)).bind fun r_16=>(idxM r_3 0).bind fun r_17=>(chkM 2 (lenM r_3)).bind fun r_18=>(idxM r_3 2).bind fun r_19=>(chkM 1 (lenM r_3)).bind
 fun r_20=>(idxM r_3 1).bind fun r_21=>(m42F (wrap IntKind.i64 (wrap IntKind.i64 (r_11-x.2)*wrap IntKind.i64 (r_13-x.2)),wrap IntKind.i64 (wrap
 IntKind.i64 (2*wrap IntKind.i64 (r_15-r_17))*wrap IntKind.i64 (r_19-r_21)))).bind fun r_22=>(m67F ((s_1.2.1,s_1.2.2),r_22.1.1,r_22.1.2)).bind fun
 r=>some (r.1.1,r.1.2) else some (s_1.2.1,s_1.2.2)).bind fun o=>(((idxM x.1.2.2.2 (wrap IntKind.i64 (wrap IntKind.i64 (s.1*wrap IntKind.i64 (x.1.1 +
 1))+s_1.1))).bind fun r=>some r).bind fun (ov_1:Int)=>((idxM x.1.2.2.2 (wrap IntKind.i64 (wrap IntKind.i64 (wrap IntKind.i64 (s.1+1)*wrap
 IntKind.i64 (x.1.1+1))+wrap IntKind.i64 (s_1.1+1)))).bind fun r=>some r).bind fun (ov_2:Int)=>((idxM x.1.2.2.2 (wrap IntKind.i64 (wrap IntKind.i64
 (wrap IntKind.i64 (s.1+1)*wrap IntKind.i64 (x.1.1+1))+s_1.1))).bind fun r=>some r).bind fun (ov_3:Int)=>(sortI [ov_1,ov_2,ov_3]).bind fun r_3
 => (chkM 0 (lenM r_3)).bind fun r_4=>(idxM r_3 0).bind fun r_5=>bif ltM x.2 r_5 then (m42F (1,2)).bind fun r_6=>(m67F ((o.1,o.2),r_6.1.1,
 r_6.1.2)).bind fun r=>some (r.1.1,r.1.2) else (chkM 1 (lenM r_3)).bind fun r_6=>(idxM r_3 1).bind fun r_7=>bif ltM x.2 r_7 then (m42F (1,2)).bind fun
 r_8=>(m67F ((o.1,o.2),r_8.1.1,r_8.1.2)).bind fun r_9=>(chkM 0 (lenM r_3)).bind fun r_10=>(idxM r_3 0).bind fun r_11=>(chkM 0 (lenM r_3)).bind fun
 r_12=>(idxM r_3 0).bind fun r_13=>(chkM 1 (lenM r_3)).bind fun r_14=>(idxM r_3 1).bind fun r_15=>(chkM 0 (lenM r_3)).bind fun r_16=>(idxM r_3
 0).bind fun r_17=>(chkM 2 (lenM r_3)).bind fun r_18=>(idxM r_3 2).bind fun r_19=>(chkM 0 (lenM r_3)).bind fun r_20=>(idxM r_3 0).bind fun r_21 =>
 (m42F (wrap IntKind.i64 (wrap IntKind.i64 (negM (wrap IntKind.i64 (x.2-r_11)))*wrap IntKind.i64 (x.2-r_13)),wrap IntKind.i64 (wrap IntKind.i64 (2 *
 wrap IntKind.i64 (r_15-r_17))*wrap IntKind.i64 (r_19-r_21)))).bind fun r_22=>(m67F ((r_9.1.1,r_9.1.2),r_22.1.1,r_22.1.2)).bind fun r=>some
 (r.1.1,r.1.2) else (chkM 2 (lenM r_3)).bind fun r_8=>(idxM r_3 2).bind fun r_9=>bif ltM x.2 r_9 then (chkM 2 (lenM r_3)).bind fun r_10=>(idxM r_3
 2).bind fun r_11=>(chkM 2 (lenM r_3)).bind fun r_12=>(idxM r_3 2).bind fun r_13=>(chkM 2 (lenM r_3)).bind fun r_14=>(idxM r_3 2).bind fun r_15 =>
 (chkM 0 (lenM r_3)).bind fun r_16=>(idxM r_3 0).bind fun r_17=>(chkM 2 (lenM r_3)).bind fun r_18=>(idxM r_3 2).bind fun r_19=>(chkM 1 (lenM r_3)).bind
 fun r_20=>(idxM r_3 1).bind fun r_21=>(m42F (wrap IntKind.i64 (wrap IntKind.i64 (r_11-x.2)*wrap IntKind.i64 (r_13-x.2)),wrap IntKind.i64 (wrap
 IntKind.i64 (2*wrap IntKind.i64 (r_15-r_17))*wrap IntKind.i64 (r_19-r_21)))).bind fun r_22=>(m67F ((o.1,o.2),r_22.1.1,r_22.1.2)).bind fun r =>
 some (r.1.1,r.1.2) else some (o.1,o.2)).bind fun o=>some (Sum.inl (wrap IntKind.i64 (s_1.1+1),o.1,o.2)) else some (Sum.inr (s_1.2.1,s_1.2.2))) (0,
 s.2.1,s.2.2)).bind fun o=>some (Sum.inl (wrap IntKind.i64 (s.1+1),o.1,o.2)) else some (Sum.inr (s.2.1,s.2.2))) (0,r_2.1.1,r_2.1.2)).bind fun o =>
 some (o.1,o.2)).bind fun (ov_1:List UInt8×List UInt8)=>some ((ov.1,ov.2),(ov_1.1,ov_1.2),0)
theorem le35 (x):Le (m35F x) (m35 x):=by
 unfold m35F m35
 repeat' first | with_reducible exact le17 _ | with_reducible exact le42 _ | with_reducible exact le67 _ | with_reducible exact Le.refl _ | intro _ | apply Le.bind | apply Le.cond | apply Le.nil | apply Le.loop | apply Le.elim
def m55F:(Int×Int×List Int×List Int)→Option ((Int×Int×List Int×List Int)×Int) :=
 fun x=>(m17F (x.1,x.2.1,x.2.2.1,x.2.2.2)).bind fun r=>bif PE.notM r then some ((0,0,[],[]),250) else some ((x.1,x.2.1,x.2.2.1,x.2.2.2),0)
theorem le55 (x):Le (m55F x) (m55 x):=by
 unfold m55F m55
 repeat' first | with_reducible exact le17 _ | with_reducible exact Le.refl _ | intro _ | apply Le.bind | apply Le.cond | apply Le.nil | apply Le.loop | apply Le.elim
def m25F:(Int×Int×List Int×List Int)→Option ((Int×Int×List Int×List Int)×Int) :=
 fun x=>(m17F (x.1,x.2.1,x.2.2.1,x.2.2.2)).bind fun r=>bif PE.notM r then some ((0,0,[],[]),250) else ((loopF (fun (s:Int×List Int)=>bif ltM s.1
 (wrap IntKind.i64 (wrap IntKind.i64 (2*x.2.1)+1)) then (loopF (fun (s_1:Int×List Int)=>bif ltM s_1.1 (wrap IntKind.i64 (wrap IntKind.i64 (2*x.1) +
 1)) then (divM IntKind.i64 s_1.1 2).bind fun r_1=>(divM IntKind.i64 s.1 2).bind fun r_2=>(idxM x.2.2.1 (wrap IntKind.i64 (wrap IntKind.i64 (r_2*wrap
 IntKind.i64 (x.1+1))+r_1))).bind fun r_3=>(divM IntKind.i64 (wrap IntKind.i64 (s_1.1+1)) 2).bind fun r_4=>(divM IntKind.i64 (wrap IntKind.i64 (s.1 +
 1)) 2).bind fun r_5=>(idxM x.2.2.1 (wrap IntKind.i64 (wrap IntKind.i64 (r_5*wrap IntKind.i64 (x.1+1))+r_4))).bind fun r_6=>(appM (nat_lit 8) s_1.2
 [wrap IntKind.i64 (r_3+r_6)]).bind fun r=>some (Sum.inl (wrap IntKind.i64 (s_1.1+1),r)) else some (Sum.inr s_1.2)) (0,s.2)).bind fun o=>some
 (Sum.inl (wrap IntKind.i64 (s.1+1),o)) else some (Sum.inr s.2)) (0,[])).bind fun o=>some o).bind fun (ov:List Int)=>((loopF (fun (s:Int×List
 Int)=>bif ltM s.1 (wrap IntKind.i64 (wrap IntKind.i64 (2*x.2.1)+1)) then (loopF (fun (s_1:Int×List Int)=>bif ltM s_1.1 (wrap IntKind.i64 (wrap
 IntKind.i64 (2*x.1)+1)) then (divM IntKind.i64 s_1.1 2).bind fun r_1=>(divM IntKind.i64 s.1 2).bind fun r_2=>(idxM x.2.2.2 (wrap IntKind.i64 (wrap
 IntKind.i64 (r_2*wrap IntKind.i64 (x.1+1))+r_1))).bind fun r_3=>(divM IntKind.i64 (wrap IntKind.i64 (s_1.1+1)) 2).bind fun r_4=>(divM IntKind.i64
 (wrap IntKind.i64 (s.1+1)) 2).bind fun r_5=>(idxM x.2.2.2 (wrap IntKind.i64 (wrap IntKind.i64 (r_5*wrap IntKind.i64 (x.1+1))+r_4))).bind fun r_6 =>
 (appM (nat_lit 8) s_1.2 [wrap IntKind.i64 (r_3+r_6)]).bind fun r=>some (Sum.inl (wrap IntKind.i64 (s_1.1+1),r)) else some (Sum.inr s_1.2)) (0,
 s.2)).bind fun o=>some (Sum.inl (wrap IntKind.i64 (s.1+1),o)) else some (Sum.inr s.2)) (0,[])).bind fun o=>some o).bind fun (ov_1:List Int)=>(m55F
 (wrap IntKind.i64 (2*x.1),wrap IntKind.i64 (2*x.2.1),ov,ov_1)).bind fun r=>some ((r.1.1,r.1.2.1,r.1.2.2.1,r.1.2.2.2),r.2)
theorem le25 (x):Le (m25F x) (m25 x):=by
 unfold m25F m25
 repeat' first | with_reducible exact le17 _ | with_reducible exact le55 _ | with_reducible exact Le.refl _ | intro _ | apply Le.bind | apply Le.cond | apply Le.nil | apply Le.loop | apply Le.elim
def m27F:((Int×Int×List Int×List Int)×Int×Int×List Int×List Int)→Option ((Int×Int×List Int×List Int)×Int) :=
 fun x=>(m17F (x.1.1,x.1.2.1,x.1.2.2.1,x.1.2.2.2)).bind fun r=>(bif PE.notM (PE.notM r) then m17F (x.2.1,x.2.2.1,x.2.2.2.1,x.2.2.2.2) else some
 false).bind fun r_1=>bif PE.orM (PE.orM (PE.orM (PE.notM r) (PE.notM r_1)) (PE.notM (eqM x.1.1 x.2.1))) (PE.notM (eqM x.1.2.1 x.2.2.1)) then some ((0,0,
 [],[]),250) else (mo54 x.1.2.2.1).bind fun r_2=>(mo54 x.1.2.2.2).bind fun r_3=>(loopF (fun (s:Int×List Int×List Int)=>bif ltM s.1 (lenM r_2)
 then (chkM s.1 (lenM s.2.1)).bind fun r_4=>(idxM s.2.1 s.1).bind fun r_5=>(idxM x.2.2.2.1 s.1).bind fun r_6=>(chkM s.1 (lenM s.2.1)).bind fun r_7 =>
 (setM s.2.1 s.1 fun (x:Int)=>some (wrap IntKind.i64 (r_5+r_6))).bind fun r_8=>(chkM s.1 (lenM s.2.2)).bind fun r_9=>(idxM s.2.2 s.1).bind fun r_10
 => (idxM x.2.2.2.2 s.1).bind fun r_11=>(chkM s.1 (lenM s.2.2)).bind fun r_12=>(setM s.2.2 s.1 fun (x:Int)=>some (wrap IntKind.i64 (r_10+r_11))).bind
 fun r=>some (Sum.inl (wrap IntKind.i64 (s.1+1),r_8,r)) else some (Sum.inr (s.2.1,s.2.2))) (0,r_2,r_3)).bind fun o=>(m55F (x.1.1,x.1.2.1,o.1,
 o.2)).bind fun r=>some ((r.1.1,r.1.2.1,r.1.2.2.1,r.1.2.2.2),r.2)
theorem le27 (x):Le (m27F x) (m27 x):=by
 unfold m27F m27
 repeat' first | with_reducible exact le17 _ | with_reducible exact le55 _ | with_reducible exact Le.refl _ | intro _ | apply Le.bind | apply Le.cond | apply Le.nil | apply Le.loop | apply Le.elim
def m22F:((Int×Int×List Int×List Int)×Int)→Option ((Int×Int×List Int×List Int)×Int) :=
 fun x=>(m17F (x.1.1,x.1.2.1,x.1.2.2.1,x.1.2.2.2)).bind fun r=>(bif PE.notM (PE.notM r) then m51 (x.2,0,100) else some false).bind fun r_1=>bif PE.orM
 (PE.notM r) (PE.notM r_1) then some ((0,0,[],[]),250) else (mo54 x.1.2.2.1).bind fun r_2=>(mo54 x.1.2.2.2).bind fun r_3=>(loopF (fun (s:Int×List
 Int×List Int)=>bif ltM s.1 (lenM r_2) then (chkM s.1 (lenM s.2.1)).bind fun r_4=>(idxM s.2.1 s.1).bind fun r_5=>(chkM s.1 (lenM s.2.1)).bind fun r_6
 => (setM s.2.1 s.1 fun (x_1:Int)=>some (wrap IntKind.i64 (r_5*x.2))).bind fun r_7=>(chkM s.1 (lenM s.2.2)).bind fun r_8=>(idxM s.2.2 s.1).bind fun
 r_9=>(chkM s.1 (lenM s.2.2)).bind fun r_10=>(setM s.2.2 s.1 fun (x_1:Int)=>some (wrap IntKind.i64 (r_9*x.2))).bind fun r=>some (Sum.inl (wrap
 IntKind.i64 (s.1+1),r_7,r)) else some (Sum.inr (s.2.1,s.2.2))) (0,r_2,r_3)).bind fun o=>(m55F (x.1.1,x.1.2.1,o.1,o.2)).bind fun r=>some ((r.1.1,
 r.1.2.1,r.1.2.2.1,r.1.2.2.2),r.2)
theorem le22 (x):Le (m22F x) (m22 x):=by
 unfold m22F m22
 repeat' first | with_reducible exact le17 _ | with_reducible exact le55 _ | with_reducible exact Le.refl _ | intro _ | apply Le.bind | apply Le.cond | apply Le.nil | apply Le.loop | apply Le.elim
def m29F:((Int×Int×List Int×List Int)×Int×Int×List Int×List Int)→Option (List Int×Int) :=
 fun x=>(m17F (x.1.1,x.1.2.1,x.1.2.2.1,x.1.2.2.2)).bind fun r=>(bif PE.notM (PE.notM r) then m17F (x.2.1,x.2.2.1,x.2.2.2.1,x.2.2.2.2) else some
 false).bind fun r_1=>bif PE.orM (PE.orM (PE.orM (PE.notM r) (PE.notM r_1)) (PE.notM (eqM x.1.1 x.2.1))) (PE.notM (eqM x.1.2.1 x.2.2.1)) then some ([],250)
 else (mkM (lenM x.1.2.2.1) (lenM x.1.2.2.1) (nat_lit 8) 0).bind fun r_2=>(loopF (fun (s:Int×List Int)=>bif ltM s.1 (lenM r_2) then ((idxM x.1.2.2.1
 s.1).bind fun r_3=>(idxM x.1.2.2.2 s.1).bind fun r_4=>(idxM x.2.2.2.1 s.1).bind fun r_5=>(idxM x.2.2.2.2 s.1).bind fun r_6=>bif ltM (min r_4 r_6) (max
 r_3 r_5) then (chkM s.1 (lenM s.2)).bind fun r_7=>(setM s.2 s.1 fun (x:Int)=>some 2).bind fun r=>some r else bif PE.orM (PE.notM (PE.andM (eqM r_3
 r_5) (eqM r_4 r_6))) (PE.notM (eqM r_3 r_4)) then (chkM s.1 (lenM s.2)).bind fun r_7=>(setM s.2 s.1 fun (x:Int)=>some 1).bind fun r=>some r else some
 s.2).bind fun o=>some (Sum.inl (wrap IntKind.i64 (s.1+1),o)) else some (Sum.inr s.2)) (0,r_2)).bind fun o=>some (o,0)
theorem le29 (x):Le (m29F x) (m29 x):=by
 unfold m29F m29
 repeat' first | with_reducible exact le17 _ | with_reducible exact Le.refl _ | intro _ | apply Le.bind | apply Le.cond | apply Le.nil | apply Le.loop | apply Le.elim
def m31F:(List Int×List Int)→Option (Bool) :=
 fun x=>bif PE.notM (eqM (lenM x.1) (lenM x.2)) then some false else (loopF (fun (s:Int)=>bif ltM s (lenM x.1) then (idxM x.1 s).bind fun r=>(idxM x.2
 s).bind fun r_1=>bif PE.notM (eqM r r_1) then some (Sum.inr (Sum.inr false)) else some (Sum.inl (wrap IntKind.i64 (s+1))) else some (Sum.inr (Sum.inl
 ()))) 0).bind fun o=>Sum.elim (fun (t:Unit)=>some true) (fun (t:Bool)=>some t) o
theorem le31 (x):Le (m31F x) (m31 x):=by
 unfold m31F m31
 repeat' first | with_reducible exact Le.refl _ | intro _ | apply Le.bind | apply Le.cond | apply Le.nil | apply Le.loop | apply Le.elim
def m12F:Unit→Option (Bool) :=
 fun x=>(m20F ((1,1,[0,6,12,6],[0,6,12,6]),1,1,2)).bind fun r=>(m20F ((1,1,[0,6,12,6],[0,6,12,6]),1,3,4)).bind fun r_1=>(m20F ((1,
 1,[0,6,12,6],[0,6,12,6]),3,0,2)).bind fun r_2=>(m15F (1,1,[0,6,12,6],[0,6,12,6])).bind fun r_3=>(m38 (0,0)).bind fun r_4=>(m38 (1,
 0)).bind fun r_5=>(m38 (0,1)).bind fun r_6=>(m33F ((1,1,[0,6,12,6],[0,6,12,6]),[(r_4.1,r_4.2),(r_5.1,r_5.2),(r_6.1,r_6.2)])).bind fun r_7
 => (m38 (0,0)).bind fun r_8=>(m38 (2,0)).bind fun r_9=>(m38 (0,1)).bind fun r_10=>(m33F ((1,1,[0,6,12,6],[0,6,12,6]),[(r_8.1,r_8.2),
 (r_9.1,r_9.2),(r_10.1,r_10.2)])).bind fun r_11=>(m35F ((1,1,[0,6,12,6],[0,6,12,6]),3)).bind fun r_12=>(m35F ((1,1,[0,6,12,6],[0,6,12,
 6]),11)).bind fun r_13=>(m25F (1,1,[0,6,12,6],[0,6,12,6])).bind fun r_14=>(m27F ((1,1,[0,6,12,6],[0,6,12,6]),1,1,[0,6,12,6],[0,
 6,12,6])).bind fun r_15=>(m22F ((1,1,[0,6,12,6],[0,6,12,6]),3)).bind fun r_16=>(m22F ((1,1,[0,6,12,6],[0,6,12,6]),9)).bind fun r_17
 => (m29F ((1,1,[0,6,12,6],[0,6,12,6]),1,1,[0,6,12,6],[0,7,12,6])).bind fun r_18=>bif PE.orM (PE.orM (PE.orM (PE.orM (PE.orM (PE.orM
 (PE.orM (PE.orM (PE.orM (PE.orM (PE.orM (PE.notM (eqM r.2.2 0)) (PE.notM (eqM r_1.2.2 0))) (PE.notM (eqM r_2.2.2 250))) (PE.notM (eqM r_7.2.2 0))) (PE.notM
 (eqM r_11.2.2 250))) (PE.notM (eqM r_12.2.2 0))) (PE.notM (eqM r_13.2.2 0))) (PE.notM (eqM r_14.2 0))) (PE.notM (eqM r_15.2 0))) (PE.notM (eqM r_16.2 0)))
 (PE.notM (eqM r_17.2 250))) (PE.notM (eqM r_18.2 0)) then some false else (m31F (r_14.1.2.2.1,[0,6,12,12,6,12,24,18,12])).bind fun r_19=>(bif r_19
 then m31F (r_14.1.2.2.2,r_14.1.2.2.1) else some false).bind fun r_20=>(bif PE.andM (PE.andM (PE.andM r_19 r_20) (eqM r_14.1.1 2)) (eqM r_14.1.2.1 2) then
 m31F (r_15.1.2.2.2,[0,12,24,12]) else some false).bind fun r_21=>(bif PE.andM (PE.andM (PE.andM (PE.andM r_19 r_20) (eqM r_14.1.1 2)) (eqM r_14.1.2.1
 2)) r_21 then m31F (r_16.1.2.2.1,[0,18,36,18]) else some false).bind fun r_22=>(bif PE.andM (PE.andM (PE.andM (PE.andM (PE.andM (PE.andM (PE.andM (eqM
 r.1 6) (eqM r.2.1 6)) (eqM r_1.1 30)) (eqM r_1.2.1 30)) (eqM r_3.1 30)) (eqM r_3.2 30)) (PE.andM (PE.andM (PE.andM (PE.andM (PE.andM (eqsM r_7.1.1 [(50 :
 UInt8)]) (eqsM r_7.1.2 [(49:UInt8)])) (PE.andM (eqsM r_7.2.1.1 r_7.1.1) (eqsM r_7.2.1.2 r_7.1.2))) (PE.andM (eqsM r_12.1.1 [(49:UInt8),(51:UInt8)])
 (eqsM r_12.1.2 [(49:UInt8),(54:UInt8)]))) (PE.andM (eqsM r_13.1.1 [(49:UInt8)]) (eqsM r_13.1.2 [(49:UInt8),(52:UInt8),(52:UInt8)]))) (PE.andM
 (eqsM r_13.2.1.1 r_13.1.1) (eqsM r_13.2.1.2 r_13.1.2)))) (PE.andM (PE.andM (PE.andM (PE.andM (PE.andM r_19 r_20) (eqM r_14.1.1 2)) (eqM r_14.1.2.1 2)) r_21)
 r_22) then m31F (r_18.1,[0,1,0,0]) else some false).bind fun r_23=>(bif PE.andM (PE.andM (PE.andM (PE.andM (PE.andM (PE.andM (PE.andM (PE.andM (eqM r.1
 6) (eqM r.2.1 6)) (eqM r_1.1 30)) (eqM r_1.2.1 30)) (eqM r_3.1 30)) (eqM r_3.2 30)) (PE.andM (PE.andM (PE.andM (PE.andM (PE.andM (eqsM r_7.1.1 [(50:UInt8)])
 (eqsM r_7.1.2 [(49:UInt8)])) (PE.andM (eqsM r_7.2.1.1 r_7.1.1) (eqsM r_7.2.1.2 r_7.1.2))) (PE.andM (eqsM r_12.1.1 [(49:UInt8),(51:UInt8)]) (eqsM
 r_12.1.2 [(49:UInt8),(54:UInt8)]))) (PE.andM (eqsM r_13.1.1 [(49:UInt8)]) (eqsM r_13.1.2 [(49:UInt8),(52:UInt8),(52:UInt8)]))) (PE.andM (eqsM
 r_13.2.1.1 r_13.1.1) (eqsM r_13.2.1.2 r_13.1.2)))) (PE.andM (PE.andM (PE.andM (PE.andM (PE.andM r_19 r_20) (eqM r_14.1.1 2)) (eqM r_14.1.2.1 2)) r_21) r_22))
 r_23 then m17F (1,1,[0,6,12,6],[0,6,12,6]) else some false).bind fun r_24=>(bif PE.andM (PE.andM (PE.andM (PE.andM (PE.andM (PE.andM (PE.andM
 (PE.andM (PE.andM (eqM r.1 6) (eqM r.2.1 6)) (eqM r_1.1 30)) (eqM r_1.2.1 30)) (eqM r_3.1 30)) (eqM r_3.2 30)) (PE.andM (PE.andM (PE.andM (PE.andM (PE.andM
 (eqsM r_7.1.1 [(50:UInt8)]) (eqsM r_7.1.2 [(49:UInt8)])) (PE.andM (eqsM r_7.2.1.1 r_7.1.1) (eqsM r_7.2.1.2 r_7.1.2))) (PE.andM (eqsM r_12.1.1 [(49 :
 UInt8),(51:UInt8)]) (eqsM r_12.1.2 [(49:UInt8),(54:UInt8)]))) (PE.andM (eqsM r_13.1.1 [(49:UInt8)]) (eqsM r_13.1.2 [(49:UInt8),(52:UInt8),(52
 : UInt8)]))) (PE.andM (eqsM r_13.2.1.1 r_13.1.1) (eqsM r_13.2.1.2 r_13.1.2)))) (PE.andM (PE.andM (PE.andM (PE.andM (PE.andM r_19 r_20) (eqM r_14.1.1 2)) (eqM
 r_14.1.2.1 2)) r_21) r_22)) r_23) r_24 then m17F (0,0,[],[]) else some false).bind fun r_25=>some (PE.andM (PE.andM (PE.andM (PE.andM (PE.andM (PE.andM
 (PE.andM (PE.andM (PE.andM (PE.andM (eqM r.1 6) (eqM r.2.1 6)) (eqM r_1.1 30)) (eqM r_1.2.1 30)) (eqM r_3.1 30)) (eqM r_3.2 30)) (PE.andM (PE.andM (PE.andM
 (PE.andM (PE.andM (eqsM r_7.1.1 [(50:UInt8)]) (eqsM r_7.1.2 [(49:UInt8)])) (PE.andM (eqsM r_7.2.1.1 r_7.1.1) (eqsM r_7.2.1.2 r_7.1.2))) (PE.andM (eqsM
 r_12.1.1 [(49:UInt8),(51:UInt8)]) (eqsM r_12.1.2 [(49:UInt8),(54:UInt8)]))) (PE.andM (eqsM r_13.1.1 [(49:UInt8)]) (eqsM r_13.1.2 [(49:UInt8),
 (52:UInt8),(52:UInt8)]))) (PE.andM (eqsM r_13.2.1.1 r_13.1.1) (eqsM r_13.2.1.2 r_13.1.2)))) (PE.andM (PE.andM (PE.andM (PE.andM (PE.andM r_19 r_20) (eqM
 r_14.1.1 2)) (eqM r_14.1.2.1 2)) r_21) r_22)) r_23) r_24) (PE.notM r_25))
theorem le12 (x):Le (m12F x) (m12 x):=by
 unfold m12F m12
 repeat' first | with_reducible exact le15 _ | with_reducible exact le17 _ | with_reducible exact le20 _ | with_reducible exact le22 _ | with_reducible exact le25 _ | with_reducible exact le27 _ | with_reducible exact le29 _ | with_reducible exact le31 _ | with_reducible exact le33 _ | with_reducible exact le35 _ | with_reducible exact Le.refl _ | intro _ | apply Le.bind | apply Le.cond | apply Le.nil | apply Le.loop | apply Le.elim
end
end Go.Proofs.YtdaaoecjdhipjaaGreatDoor
namespace Go.Proofs.YtdaaoecjdhipjaaGreatDoor
open Go Go.Abs Go.PE
set_option maxRecDepth 100000 in
theorem saneF:m12F ()=some true:=by kernel_rfl
theorem sane_ok:m12 ()=some true:=(le12 ()).out saneF
end Go.Proofs.YtdaaoecjdhipjaaGreatDoor
namespace Go.PE
open Go Go.Abs
def InR:(t:Ty)→t.den→Prop
 | .int k,x=>k.has x
 | .bool,_=>True
 | .str,x=>List.length x≤maxLen
 | .list t,xs=>List.length xs≤maxLen∧∀ (i:Nat) (x:t.den),xs[i]? = some x→InR t x
 | .one t,x=>InR t x
 | .pair a b,x=>InR a x.1∧InR b x.2
def OkT:(l:List Ty)→Tup (l.map .d)→Prop
 | [],_=>True
 | [t],x=>InR t x
 | t::u::r,x=>InR t x.1∧OkT (u::r) x.2
section
variable {S:Cells} {w:World} {η:Eta}
theorem Rep.ok:∀ {t:Ty} {x:t.den} {cs:List Value},Rep S w t x cs→InR t x
 | .int _,_,_,h=>h.2
 | .bool,_,_,_=>trivial
 | .str,_,_,h=>h.2
 | .list t,xs,_,h=>by
  obtain ⟨base,cap,rfl,h1,h2,h3⟩:=h
  refine ⟨Nat.le_trans h1 h2,fun i x hx=>?_⟩
  rcases h3 with h3 | ⟨b,off,_,h3⟩
  ·have:xs=[]:=List.length_eq_zero_iff.1 h3
   rw [this] at hx
   cases hx
  ·obtain ⟨es,h4,_⟩:=h3 i x hx
   exact Rep.ok h4
 | .one t,x,cs,h=>by
  have h':Rep S w t x cs:=h
  exact Rep.ok (t:=t) h'
 | .pair a b,x,cs,h=>by
  obtain ⟨c1,c2,rfl,h1,h2⟩:=h
  exact ⟨Rep.ok h1,Rep.ok h2⟩
theorem cv_ok:∀ {t:Ty} {x:t.den} {vs:List Value},All2 (CM S w η) (t.cv x) vs→InR t x
 | .int _,_,_,.cons h .nil=>let ⟨_,a,_⟩:=h.2;Rep.ok a
 | .bool,_,_,_=>trivial
 | .str,_,_,.cons h .nil=>let ⟨_,a,_⟩:=h.2;Rep.ok a
 | .list _,_,_,.cons h .nil=>let ⟨_,a,_⟩:=h.2;Rep.ok a
 | .one t,x,vs,h=>by
  have h':All2 (CM S w η) (t.cv x) vs:=h
  exact cv_ok (t:=t) h'
 | .pair a b,x,vs,h=>by
  have h':All2 (CM S w η) (a.cv x.1++b.cv x.2) vs:=h
  obtain ⟨b1,b2,rfl,h1,h2⟩:=All2.split h'
  exact ⟨cv_ok h1,cv_ok h2⟩
theorem rv_ok {t:Ty} {x:t.den} {v:Value} (h:RM S w η (t.rv x) v):InR t x:=by
 unfold Ty.rv at h
 split at h
 ·obtain ⟨vs,_,h2⟩:=h
  exact cv_ok h2
 ·obtain ⟨_,cs,h2,_⟩:=h
  exact Rep.ok h2
theorem rvs_ok:∀ {l:List Ty} {x:Tup (l.map .d)} {vs:List Value},All2 (RM S w η) (rvs l x) vs→OkT l x
 | [],_,_,_=>trivial
 | [t],x,_,.cons h .nil=>rv_ok h
 | t::u::r,x,_,h=>by
  have h':All2 (RM S w η) (t.rv x.1::rvs (u::r) x.2) _:=h
  cases h' with
  | cons h1 h2=>exact ⟨rv_ok h1,rvs_ok (l:=u::r) h2⟩
end
theorem law_of_ok {args:List Ty} {m:Tup (args.map .d)→Option Bool} (h:∀ x,OkT args x→m x=some true) :
  ∀ (S:Cells) (w:World) (η:Eta) (vs:List Value) x,All2 (RM S w η) (rvs args x) vs→m x=some true:=fun _ _ _ _ x hx=>h x (rvs_ok hx)

theorem wrap_in {n:Int} (h1:-9223372036854775808≤n) (h2:n≤9223372036854775807):IntKind.wrap IntKind.i64 n=n:=Go.IntWalk.i64_in n ⟨h1,h2⟩
theorem idxM_nat {α:Type} (xs:List α) (i:Nat):idxM xs (i:Int)=xs[i]? := by
 unfold idxM
 rw [decide_eq_true (by omega:(0:Int)≤i)]
 simp
theorem idxM_lt {α:Type} {xs:List α} {i:Nat} (h:i<xs.length):idxM xs (i:Int)=some xs[i]:=by
 rw [idxM_nat,List.getElem?_eq_getElem h]
theorem chkM_of {i n:Int} (h0:0≤i) (h:i<n):chkM i n=some ():=by
 unfold chkM
 rw [decide_eq_true h0,decide_eq_true h]
theorem appM_of {α:Type} {b:Nat} {xs ys:List α} (h:(xs.length+ys.length)*b≤140737488355328):appM b xs ys=some (xs++ys):=by
 unfold appM
 rw [decide_eq_true h]
theorem mkM_of {α:Type} {n c:Int} {b:Nat} {d:α} (h0:0≤n) (h:n≤c) (hb:c*b≤140737488355328):mkM n c b d=some (List.replicate n.toNat d):=by
 unfold mkM
 rw [decide_eq_true h0,decide_eq_true h,decide_eq_true hb]
theorem sliceM_of {α:Type} {xs:List α} {lo hi:Int} (h0:0≤lo) (h:lo≤hi) (h2:hi≤xs.length):sliceM xs lo hi=some ((xs.take hi.toNat).drop lo.toNat):=by
 unfold sliceM
 rw [decide_eq_true h0,decide_eq_true h,decide_eq_true h2]
theorem loopM_inv {σ β:Type} {body:σ→Option (σ⊕β)} (P:Nat→σ→Prop) (Q:β→Prop) (n:Nat)
  (h:∀ k s,k≤n→P k s→(∃ s',k<n∧body s=some (.inl s')∧P (k+1) s')∨∃ r,body s=some (.inr r)∧Q r) :
  ∀ (m k:Nat) (s:σ),n-k=m→k≤n→P k s→∃ r,loopM body s=some r∧Q r:=by
 intro m
 induction m with
 | zero =>
  intro k s hm hk hP
  rcases h k s hk hP with ⟨s',hlt,_⟩ | ⟨r,h1,h2⟩
  ·omega
  ·exact ⟨r,by rw [loopM_eq,h1];rfl,h2⟩
 | succ m ih =>
  intro k s hm hk hP
  rcases h k s hk hP with ⟨s',hlt,h1,h2⟩ | ⟨r,h1,h2⟩
  ·obtain ⟨r,h3,h4⟩:=ih (k+1) s' (by omega) (by omega) h2
   exact ⟨r,by rw [loopM_eq,h1];exact h3,h4⟩
  ·exact ⟨r,by rw [loopM_eq,h1];rfl,h2⟩
theorem loopM_from {σ β:Type} {body:σ→Option (σ⊕β)} (P:Nat→σ→Prop) (Q:β→Prop) (n:Nat) {s:σ} (h0:P 0 s)
  (h:∀ k s,k≤n→P k s→(∃ s',k<n∧body s=some (.inl s')∧P (k+1) s')∨∃ r,body s=some (.inr r)∧Q r):∃ r,loopM body s=some r∧Q r :=
 loopM_inv P Q n h n 0 s (by omega) (by omega) h0
theorem loopM_fn {σ β:Type} {body:σ→Option (σ⊕β)} (g:Nat→σ) (n:Nat) {r:β} (h:∀ k,k<n→body (g k)=some (.inl (g (k+1)))) (he:body (g n)=some (.inr r)):loopM body (g 0)=some r:=by
 obtain ⟨r',h1,h2⟩:=loopM_from (body:=body) (fun k s=>s=g k) (fun x=>x=r) n (s:=g 0) rfl fun k s hk hs=>by
  subst hs
  by_cases hlt:k<n
  ·exact .inl ⟨_,hlt,h k hlt,rfl⟩
  ·have:k=n:=by omega
   subst this
   exact .inr ⟨r,he,rfl⟩
 rw [h1,h2]
end Go.PE
namespace Go.PE
open Go Go.Abs
def row {α:Type} (m:Nat) (g:Nat→α):List α:=(List.range m).map g
def upd {α:Type} (d:Nat→Nat→α) (i j:Nat) (y:α):Nat→Nat→α:=fun a b=>if a=i∧b=j then y else d a b
section
variable {α:Type}
theorem row_length (m:Nat) (g:Nat→α):(row m g).length=m:=by simp [row]
theorem row_get {m:Nat} {g:Nat→α} {i:Nat} (h:i<m):(row m g)[i]? = some (g i):=by simp [row,h]
theorem row_idx {m:Nat} {g:Nat→α} {i:Nat} (h:i<m):idxM (row m g) (i:Int)=some (g i):=by rw [idxM_nat,row_get h]
theorem row_congr {m:Nat} {g g':Nat→α} (h:∀ i,i<m→g i=g' i):row m g=row m g':=by
 unfold row
 exact List.map_congr_left fun i hi=>h i (List.mem_range.1 hi)
theorem row_set {m:Nat} {g:Nat→α} {i:Nat} (h:i<m) (y:α):(row m g).set i y=row m fun a=>if a=i then y else g a:=by
 apply List.ext_getElem?
 intro k
 rw [List.getElem?_set]
 by_cases hk:k<m
 ·by_cases e:i=k
  ·subst e
   rw [if_pos rfl,if_pos (by rw [row_length];exact h),row_get h,if_pos rfl]
  ·have e':¬ k=i:=fun x=>e x.symm
   simp [e,e',row_get hk]
 ·have h1:i≠k:=by omega
  rw [if_neg h1,List.getElem?_eq_none (by rw [row_length];omega),List.getElem?_eq_none (by rw [row_length];omega)]
theorem row_succ (m:Nat) (g:Nat→α):row (m+1) g=row m g++[g m]:=by simp [row,List.range_succ]
theorem row_zero (g:Nat→α):row 0 g=[]:=rfl
theorem replicate_row (n:Nat) (y:α):List.replicate n y=row n fun _=>y:=by
 apply List.ext_getElem?
 intro k
 by_cases hk:k<n
 ·rw [row_get hk];simp [hk]
 ·rw [List.getElem?_eq_none (by simp;omega),List.getElem?_eq_none (by rw [row_length];omega)]
end
theorem bind_of {α β:Type} {o:Option α} {x:α} {f:α→Option β} {r:Option β} (h:o=some x) (h2:f x=r):Option.bind o f=r:=by
 rw [h];exact h2
theorem loopM_is {σ β:Type} {body:σ→Option (σ⊕β)} {s:σ} {r:β} (P:Nat→σ→Prop) (n:Nat) (h0:P 0 s)
  (h:∀ k s,k≤n→P k s→(∃ s',k<n∧body s=some (.inl s')∧P (k+1) s')∨body s=some (.inr r)):loopM body s=some r:=by
 obtain ⟨r',h1,h2⟩:=loopM_from P (fun x=>x=r) n h0 fun k s hk hP=>by
  rcases h k s hk hP with h | h
  ·exact .inl h
  ·exact .inr ⟨r,h,rfl⟩
 rw [h1,h2]
theorem count_loop {σ β:Type} {body:Int×σ→Option ((Int×σ)⊕β)} (g:Nat→σ) (n:Nat) {r:β} (h:∀ k,k<n→body ((k:Int),g k)=some (.inl ((k:Int)+1,g (k+1)))) (he:body ((n:Int),g n)=some (.inr r)) :
  loopM body ((0:Int),g 0)=some r :=
 loopM_fn (fun k=>((k:Int),g k)) n (fun k hk=>h k hk) he
end Go.PE
namespace Go.PE
open Go Go.Abs
def Ans {α:Type} (o:Option α) (Q:α→Prop):Prop:=∃ r,o=some r∧Q r
theorem Ans.is {α:Type} {o:Option α} {r:α} (h:Ans o (fun x=>x=r)):o=some r:=by
 obtain ⟨x,h1,h2⟩:=h
 rw [h1,h2]
theorem Ans.of {α:Type} {o:Option α} {r:α} {Q:α→Prop} (h:o=some r) (hQ:Q r):Ans o Q:=⟨r,h,hQ⟩
theorem Ans.some {α:Type} {r:α} {Q:α→Prop} (hQ:Q r):Ans (some r) Q:=⟨r,rfl,hQ⟩
theorem Ans.mono {α:Type} {o:Option α} {P Q:α→Prop} (h:Ans o P) (hQ:∀ x,P x→Q x):Ans o Q:=by
 obtain ⟨x,h1,h2⟩:=h
 exact ⟨x,h1,hQ x h2⟩
theorem Ans.bind {α β:Type} {o:Option α} {f:α→Option β} {P:α→Prop} {Q:β→Prop} (h:Ans o P) (hf:∀ x,P x→Ans (f x) Q):Ans (Option.bind o f) Q:=by
 obtain ⟨x,h1,h2⟩:=h
 rw [h1]
 exact hf x h2
theorem Ans.seq {α β:Type} {o:Option α} {f:α→Option β} {x:α} {Q:β→Prop} (h:o=Option.some x) (hf:Ans (f x) Q):Ans (Option.bind o f) Q:=by
 rw [h]
 exact hf
theorem Ans.cond {α:Type} {c:Bool} {a b:Option α} {Q:α→Prop} (ht:c=true→Ans a Q) (hf:c=false→Ans b Q):Ans (bif c then a else b) Q:=by
 cases c
 ·exact hf rfl
 ·exact ht rfl
def Nxt {σ β:Type} (P:σ→Prop) (Q:β→Prop):σ⊕β→Prop
 | .inl s=>P s
 | .inr r=>Q r
theorem Ans.loop {σ β:Type} {body:σ→Option (σ⊕β)} {s:σ} {Q:β→Prop} (P:Nat→σ→Prop) (n:Nat) (h0:P 0 s)
  (h:∀ k s,k≤n→P k s→Ans (body s) (Nxt (fun s'=>k<n∧P (k+1) s') Q)):Ans (loopM body s) Q:=by
 refine loopM_from P Q n h0 fun k s hk hP=>?_
 obtain ⟨o,h1,h2⟩:=h k s hk hP
 cases o with
 | inl s'=>exact .inl ⟨s',h2.1,h1,h2.2⟩
 | inr r=>exact .inr ⟨r,h1,h2⟩
theorem ltI {a b:Int} (h:a<b):ltM a b=true:=decide_eq_true h
theorem geI {a b:Int} (h:b≤a):ltM a b=false:=decide_eq_false (by omega)
theorem leI {a b:Int} (h:a≤b):leM a b=true:=decide_eq_true h
theorem gtI {a b:Int} (h:b<a):leM a b=false:=decide_eq_false (by omega)
theorem eqI {a b:Int} (h:a=b):eqM a b=true:=decide_eq_true h
theorem neI {a b:Int} (h:a≠b):eqM a b=false:=decide_eq_false h
theorem notT:notM true=false:=rfl
theorem notF:notM false=true:=rfl
theorem orT (b:Bool):orM true b=true:=rfl
theorem orF (b:Bool):orM false b=b:=rfl
theorem andT (b:Bool):andM true b=b:=rfl
theorem andF (b:Bool):andM false b=false:=rfl
def pk (c n:Int):Int:=(if c<0 then -(c+1) else c) % n
theorem pk_lo {c n:Int} (h:0<n):0≤pk c n:=Int.emod_nonneg _ (by omega)
theorem pk_hi {c n:Int} (h:0<n):pk c n<n:=Int.emod_lt_of_pos _ h
theorem remM_of {a b:Int} (ha:0≤a) (hb:0<b):remM a b=some (a % b):=by
 unfold remM
 rw [decide_eq_false (by omega)]
 show some (a.tmod b)=some (a % b)
 rw [Int.tmod_eq_emod_of_nonneg ha]
theorem divM_pos {k:IntKind} {a b:Int} (hb:b≠0):divM k a b=some (k.wrap (a.tdiv b)):=by
 unfold divM
 rw [decide_eq_false hb]
theorem pk_text {c n:Int} (hc:IntKind.i64.has c) (hn:0<n) :
  Option.bind (bif ltM c (0:Int) then some (IntKind.wrap IntKind.i64 (negM (IntKind.wrap IntKind.i64 (c+(1:Int))))) else some c) (fun (o:Int)=>Option.bind (remM o n) fun (r:Int)=>some r)=some (pk c n):=by
 have hc':-9223372036854775808≤c∧c≤9223372036854775807:=hc
 unfold pk
 by_cases h:c<0
 ·rw [ltI h,cond_true,Option.bind_some,if_pos h,wrap_in (n:=c+1) (by omega) (by omega)]
  unfold negM
  rw [wrap_in (by omega) (by omega),remM_of (by omega) hn]
  rfl
 ·rw [geI (by omega),cond_false,Option.bind_some,if_neg h,remM_of (by omega) hn]
  rfl
theorem row_idxI {α:Type} {m:Nat} {g:Nat→α} {i:Int} (h0:0≤i) (h:i<m):idxM (row m g) i=some (g i.toNat):=by
 obtain ⟨k,rfl⟩:=Int.eq_ofNat_of_zero_le h0
 exact row_idx (by omega)
theorem app_row {α:Type} {b m:Nat} {g:Nat→α} (hb:(m+1)*b≤140737488355328):appM b (row m g) [g m]=some (row (m+1) g):=by
 rw [appM_of (by rw [row_length];simpa using hb),row_succ]
theorem app_rowOf {α:Type} {b m:Nat} {g:Nat→α} {y:α} (hy:y=g m) (hb:(m+1)*b≤140737488355328):appM b (row m g) [y]=some (row (m+1) g):=by
 rw [hy,app_row hb]
end Go.PE
namespace Go.Proofs.YtdaaoecjdhipjaaGreatDoor
open Go Go.Abs Go.PE
abbrev i64 (n:Int):Prop:=-9223372036854775808≤n∧n≤9223372036854775807
def nn (W H:Nat):Nat:=(W+1)*(H+1)
def fd (W H:Nat) (lo hi:Nat→Int):Int×Int×List Int×List Int:=((W:Int),(H:Int),row (nn W H) lo,row (nn W H) hi)
structure OkF (W H:Nat) (lo hi:Nat→Int):Prop where
 w1:1≤W
 w6:W≤6
 h1:1≤H
 h6:H≤6
 l0:∀ i,i<nn W H→0≤lo i
 lh:∀ i,i<nn W H→lo i≤hi i
 h9:∀ i,i<nn W H→hi i≤100
theorem nn_bd {W H:Nat} (h1:W≤6) (h2:H≤6):nn W H≤49:=Nat.mul_le_mul (show W+1≤7 by omega) (show H+1≤7 by omega)
theorem nn_pos (W H:Nat):0<nn W H:=Nat.mul_pos (by omega) (by omega)
theorem lenR {α:Type} (m:Nat) (g:Nat→α):lenM (row m g)=(m:Int):=by show ((row m g).length:Int)=_;rw [row_length]
theorem lenL {α:Type} (l:List α):lenM l=(l.length:Int):=rfl
theorem set_rowA {α:Type} {m j:Nat} {g:Nat→α} {y:α} (hj:j<m):setM (row m g) (j:Int) (fun _=>some y)=some (row m fun a=>if a=j then y else g a):=by
 unfold setM
 rw [row_idx hj]
 simp only
 rw [show ((j:Int)).toNat=j by omega,row_set hj]
theorem nn_wrap {W H:Nat} (h1:W≤6) (h2:H≤6):IntKind.wrap IntKind.i64 (IntKind.wrap IntKind.i64 ((W:Int)+1)*IntKind.wrap IntKind.i64 ((H:Int)+1))=(nn W H:Int):=by
 have:=nn_bd h1 h2
 have e:((W:Int)+1)*((H:Int)+1)=(nn W H:Int):=by unfold nn;rw [Int.natCast_mul];rfl
 rw [wrap_in (n:=(W:Int)+1) (by omega) (by omega),wrap_in (n:=(H:Int)+1) (by omega) (by omega),e,wrap_in (by omega) (by omega)]
theorem pick_ok {c n:Int} (hc:i64 c) (hn:0<n):m46 (c,n)=some (pk c n):=pk_text hc hn
theorem pickL_ok {c n:Int} (hc:i64 c) (hn:0<n):m19 (c,n)=some (pk c n):=pk_text hc hn
theorem within_ok (n lo hi:Int):m51 (n,lo,hi)=some (decide (lo≤n∧n≤hi)):=by
 unfold m51
 dsimp only
 by_cases h1:lo≤n
 ·rw [leI h1,andT]
  by_cases h2:n≤hi
  ·rw [leI h2,decide_eq_true ⟨h1,h2⟩]
  ·rw [gtI (by omega),decide_eq_false (by omega)]
 ·rw [gtI (by omega),andF,decide_eq_false (by omega)]
theorem pass_loop {α:Type} {n:Nat} {body:Int→Option (Int⊕(Unit⊕α))} (hb:∀ k,k<n→body (k:Int)=some (.inl ((k:Int)+1))) (he:body (n:Int)=some (.inr (.inl ()))):loopM body 0=some (.inl ()) :=
 loopM_fn (fun k=>(k:Int)) n hb he
theorem valid_ok {W H:Nat} {lo hi:Nat→Int} (h:OkF W H lo hi):m17 (fd W H lo hi)=some true:=by
 have h49:=nn_bd h.w6 h.h6
 have w1:=h.w1
 have w6:=h.w6
 have h1:=h.h1
 have h6:=h.h6
 unfold m17 fd
 dsimp only
 rw [within_ok,Option.bind_some,decide_eq_true (by omega),notT,notF,cond_true,within_ok,Option.bind_some,decide_eq_true (by omega),notT,orF,orF,lenR,lenR,nn_wrap w6 h6,eqI rfl,notT,orF,cond_false]
 refine bind_of (pass_loop (n:=nn W H) (fun k hk=>?_) ?_) rfl
 ·have a:=h.l0 k hk
  have b:=h.lh k hk
  have c:=h.h9 k hk
  rw [ltI (by omega),cond_true,row_idx hk,Option.bind_some,row_idx hk,Option.bind_some,within_ok,Option.bind_some,decide_eq_true (by omega),notT,notF,cond_true,Option.bind_some,orF,geI (by omega),cond_false,wrap_in (by omega) (by omega)]
 ·rw [geI (by omega),cond_false]
theorem ints_ok (l:List Int) (hl:l.length≤maxLen):m31 (l,l)=some true:=by
 have hl:l.length≤9223372036854775807:=hl
 unfold m31
 dsimp only
 rw [eqI rfl,notT,cond_false]
 refine bind_of (pass_loop (n:=l.length) (fun k hk=>?_) ?_) rfl
 ·rw [ltI (by rw [lenL];omega),cond_true,idxM_lt hk,Option.bind_some,Option.bind_some,eqI rfl,notT,cond_false,wrap_in (by omega) (by omega)]
 ·rw [geI (by rw [lenL];omega),cond_false]
def src (x:List (Int×Int)) (i:Nat):Int×Int:=if x.length=0 then (7*(i:Int)+(i:Int)*(i:Int),0) else x.getD (i % x.length) (0,0)
def loF (most:Int) (x:List (Int×Int)) (i:Nat):Int:=pk (src x i).1 (most+1)
def hiF (most:Int) (x:List (Int×Int)) (i:Nat):Int:=min (loF most x i+pk (src x i).2 30) most
def szF (w size:Int):Nat:=(1+pk w size).toNat
theorem szF_bd {w size:Int} (h:1≤size) (h6:size≤6):1≤szF w size∧szF w size≤6∧(szF w size:Int)=1+pk w size∧szF w size≤size:=by
 have h1:=pk_lo (c:=w) (n:=size) (by omega)
 have h2:=pk_hi (c:=w) (n:=size) (by omega)
 unfold szF
 omega
theorem made_F {w h size most:Int} {x:List (Int×Int)} (hs:1≤size) (hs6:size≤6) (hm0:0≤most) (hm:most≤100):OkF (szF w size) (szF h size) (loF most x) (hiF most x):=by
 have a:=szF_bd (w:=w) hs hs6
 have b:=szF_bd (w:=h) hs hs6
 refine ⟨a.1,a.2.1,b.1,b.2.1,fun i _=>pk_lo (by omega),fun i _=>?_,fun i _=>?_⟩
 ·have h1:=pk_hi (c:=(src x i).1) (n:=most+1) (by omega)
  have h2:=pk_lo (c:=(src x i).2) (n:=30) (by omega)
  unfold hiF loF
  omega
 ·unfold hiF;omega
theorem src_ok {x:List (Int×Int)} (hx:∀ p∈x,i64 p.1∧i64 p.2) {i:Nat} (hi:i≤100):i64 (src x i).1∧i64 (src x i).2:=by
 unfold src
 by_cases h0:x.length=0
 ·rw [if_pos h0]
  have:=Int.mul_le_mul (show (i:Int)≤100 by omega) (show (i:Int)≤100 by omega) (by omega) (by omega)
  have h2:=Int.mul_nonneg (show (0:Int)≤i by omega) (show (0:Int)≤i by omega)
  unfold i64
  dsimp only
  omega
 ·rw [if_neg h0]
  have hlt:i % x.length<x.length:=Nat.mod_lt _ (by omega)
  have:x.getD (i % x.length) (0,0)∈x:=by simp [List.getD,hlt]
  exact hx _ this
theorem made_ok {w h size most:Int} {x:List (Int×Int)} (hw:i64 w) (hh:i64 h) (hs:1≤size) (hs6:size≤6) (hm0:0≤most) (hm:most≤100) (hx:∀ p∈x,i64 p.1∧i64 p.2) (hxl:x.length≤maxLen):m13 (w,h,size,most,x)=some (fd (szF w size) (szF h size) (loF most x) (hiF most x)):=by
 have hxl:x.length≤9223372036854775807:=hxl
 obtain ⟨a1,a2,a3,_⟩:=szF_bd (w:=w) hs hs6
 obtain ⟨b1,b2,b3,_⟩:=szF_bd (w:=h) hs hs6
 have h49:=nn_bd a2 b2
 unfold m13
 dsimp only
 rw [pick_ok hw (by omega),Option.bind_some,pick_ok hh (by omega),Option.bind_some,← a3,← b3,wrap_in (n:=((szF w size:Nat):Int)) (by omega) (by omega),wrap_in (n:=((szF h size:Nat):Int)) (by omega) (by omega)]
 refine bind_of (count_loop (fun k=>((szF w size:Int),(szF h size:Int),row k (loF most x),row k (hiF most x))) (nn (szF w size) (szF h size)) (r:=((szF w size:Int),(szF h size:Int),row (nn (szF w size) (szF h size)) (loF most x),row (nn (szF w size) (szF h size)) (hiF most x))) (fun k hk=>?_) ?_) rfl
 ·have hsrc:=src_ok hx (show k≤100 by omega)
  dsimp only
  rw [nn_wrap a2 b2,ltI (by omega),cond_true]
  refine bind_of (x:=src x k) ?_ ?_
  ·unfold src
   by_cases h0:x.length=0
   ·rw [geI (by rw [lenL];omega),cond_false,if_pos h0]
    have:=Int.mul_le_mul (show (k:Int)≤100 by omega) (show (k:Int)≤100 by omega) (by omega) (by omega)
    have h2:=Int.mul_nonneg (show (0:Int)≤k by omega) (show (0:Int)≤k by omega)
    rw [wrap_in (n:=7*(k:Int)) (by omega) (by omega),wrap_in (n:=(k:Int)*k) (by omega) (by omega),wrap_in (by omega) (by omega)]
   ·have hlt:k % x.length<x.length:=Nat.mod_lt _ (by omega)
    rw [ltI (by rw [lenL];omega),cond_true,if_neg h0,lenL,remM_of (by omega) (by omega),Option.bind_some,← Int.natCast_emod,idxM_lt hlt,Option.bind_some]
    simp [List.getD,hlt]
  ·have l1:=pk_lo (c:=(src x k).1) (n:=most+1) (by omega)
   have l2:=pk_hi (c:=(src x k).1) (n:=most+1) (by omega)
   have g1:=pk_lo (c:=(src x k).2) (n:=30) (by omega)
   have g2:=pk_hi (c:=(src x k).2) (n:=30) (by omega)
   rw [wrap_in (n:=most+1) (by omega) (by omega),pick_ok hsrc.1 (by omega),Option.bind_some,app_rowOf (y:=pk (src x k).1 (most+1)) (g:=loF most x) rfl (by show (k+1)*8≤_;omega),Option.bind_some,pick_ok hsrc.2 (by omega),Option.bind_some,wrap_in (n:=_+pk (src x k).2 30) (by omega) (by omega),app_rowOf (y:=min (pk (src x k).1 (most+1)+pk (src x k).2 30) most) (g:=hiF most x) rfl (by show (k+1)*8≤_;omega),Option.bind_some,wrap_in (by omega) (by omega)]
 ·dsimp only
  rw [nn_wrap a2 b2,geI (by omega),cond_false]
def chF (lo hi lo' hi':Nat→Int) (i:Nat):Int:=if min (hi i) (hi' i)<max (lo i) (lo' i) then 2 else if ¬ (lo i=lo' i∧hi i=hi' i)∨lo i≠hi i then 1 else 0
theorem changed_ok {W H:Nat} {lo hi lo' hi':Nat→Int} (h:OkF W H lo hi) (h':OkF W H lo' hi'):m29 (fd W H lo hi,fd W H lo' hi')=some (row (nn W H) (chF lo hi lo' hi'),0):=by
 have h49:=nn_bd h.w6 h.h6
 unfold m29
 have v1:=valid_ok h
 have v2:=valid_ok h'
 unfold fd at v1 v2 ⊢
 dsimp only
 rw [v1,Option.bind_some,notT,notF,cond_true,v2,Option.bind_some,notT,orF,orF,eqI rfl,notT,orF,eqI rfl,notT,cond_false,lenR,mkM_of (by omega) (by omega) (by show (nn W H:Int)*8≤_;omega),Option.bind_some,replicate_row,show ((nn W H:Nat):Int).toNat=nn W H by omega,lenR]
 refine bind_of (x:=row (nn W H) (chF lo hi lo' hi')) ?_ rfl
 have e0:(fun _=>0:Nat→Int)=fun a=>if a<0 then chF lo hi lo' hi' a else 0:=by funext a;rfl
 rw [e0]
 refine count_loop (fun k=>row (nn W H) fun a=>if a<k then chF lo hi lo' hi' a else 0) (nn W H) (fun k hk=>?_) ?_
 ·have step:∀ y,chF lo hi lo' hi' k=y→(row (nn W H) fun a=>if a=k then y else if a<k then chF lo hi lo' hi' a else 0)=row (nn W H) fun a=>if a<k+1 then chF lo hi lo' hi' a else 0:=fun y hy=>row_congr fun a ha=>by
   by_cases h1:a=k
   ·subst h1;rw [if_pos rfl,if_pos (by omega),hy]
   ·rw [if_neg h1]
    by_cases h2:a<k
    ·rw [if_pos h2,if_pos (by omega)]
    ·rw [if_neg h2,if_neg (by omega)]
  dsimp only
  rw [ltI (by omega),cond_true,row_idx hk,Option.bind_some,row_idx hk,Option.bind_some,row_idx hk,Option.bind_some,row_idx hk,Option.bind_some,wrap_in (n:=(k:Int)+1) (by omega) (by omega)]
  by_cases hc:min (hi k) (hi' k)<max (lo k) (lo' k)
  ·rw [ltI hc,cond_true,lenR,chkM_of (by omega) (by omega),Option.bind_some,set_rowA hk,Option.bind_some,Option.bind_some,step 2 (by unfold chF;rw [if_pos hc])]
  ·rw [geI (by omega),cond_false]
   by_cases hd:¬ (lo k=lo' k∧hi k=hi' k)∨lo k≠hi k
   ·have e:PE.orM (PE.notM (PE.andM (eqM (lo k) (lo' k)) (eqM (hi k) (hi' k)))) (PE.notM (eqM (lo k) (hi k)))=true:=by
     unfold PE.orM PE.notM PE.andM eqM
     simp only [Bool.or_eq_true,Bool.not_eq_true',Bool.and_eq_false_iff,decide_eq_false_iff_not]
     grind
    rw [e,cond_true,lenR,chkM_of (by omega) (by omega),Option.bind_some,set_rowA hk,Option.bind_some,Option.bind_some,step 1 (by unfold chF;rw [if_neg hc,if_pos hd])]
   ·have hd2:(lo k=lo' k∧hi k=hi' k)∧lo k=hi k:=by grind
    rw [eqI hd2.1.1,eqI hd2.1.2,eqI hd2.2,andT,notT,orF,cond_false,Option.bind_some]
    refine congrArg (fun l=>some (Sum.inl ((k:Int)+1,l))) (row_congr fun a ha=>?_)
    by_cases h1:a<k
    ·rw [if_pos h1,if_pos (by omega)]
    ·rw [if_neg h1]
     by_cases h2:a=k
     ·subst h2;rw [if_pos (by omega)];unfold chF;rw [if_neg hc,if_neg hd]
     ·rw [if_neg (by omega)]
 ·dsimp only
  rw [geI (by omega),cond_false]
  congr 2
  exact row_congr fun a ha=>if_pos ha
end Go.Proofs.YtdaaoecjdhipjaaGreatDoor
namespace Go.Proofs.YtdaaoecjdhipjaaGreatDoor
open Go Go.Abs Go.PE
theorem bif_some {α:Type} (c:Bool) (a b:α):(bif c then some a else some b)=some (bif c then a else b):=by cases c<;>rfl
end Go.Proofs.YtdaaoecjdhipjaaGreatDoor
namespace Go.Proofs.YtdaaoecjdhipjaaGreatDoor
open Go Go.Abs Go.PE
abbrev Fld:=Int×Int×List Int×List Int
theorem bad_loop {n:Nat} {body:Int→Option (Int⊕(Unit⊕Bool))} (bad:Nat→Prop) (h:∃ k,k<n∧bad k) (hb:∀ k,k<n→(bad k→body (k:Int)=some (.inr (.inr false)))∧(¬ bad k→body (k:Int)=some (.inl ((k:Int)+1)))):loopM body 0=some (.inr false):=by
 obtain ⟨k0,hk0,hb0⟩:=h
 refine loopM_is (fun k s=>s=(k:Int)∧∃ j,k≤j∧j<n∧bad j) n ⟨rfl,k0,by omega,hk0,hb0⟩ ?_
 rintro k s hk ⟨rfl,j,h1,h2,h3⟩
 have hkn:k<n:=by omega
 by_cases hbad:bad k
 ·exact .inr ((hb k hkn).1 hbad)
 ·refine .inl ⟨_,hkn,(hb k hkn).2 hbad,by omega,j,?_,h2,h3⟩
  rcases Nat.lt_or_ge k j with h | h
  ·omega
  ·have:k=j:=by omega
   subst this
   exact absurd h3 hbad
theorem list_row {α:Type} (l:List α) (d:α):l=row l.length fun i=>l.getD i d:=by
 apply List.ext_getElem?
 intro k
 by_cases hk:k<l.length
 ·rw [row_get hk,List.getElem?_eq_getElem hk];simp [List.getD,hk]
 ·rw [List.getElem?_eq_none (by omega),List.getElem?_eq_none (by rw [row_length];omega)]
theorem valid2_ok {W H:Nat} {lo hi:Nat→Int} (h:OkF W H lo hi):m18 (fd W H lo hi)=some true:=by
 have h49:=nn_bd h.w6 h.h6
 have w1:=h.w1
 have w6:=h.w6
 have h1:=h.h1
 have h6:=h.h6
 unfold m18 fd
 dsimp only
 rw [geI (by omega),orF,geI (by omega),orF,geI (by omega),orF,geI (by omega),orF,lenR,lenR,nn_wrap w6 h6,eqI rfl,notT,orF,cond_false]
 refine bind_of (pass_loop (n:=nn W H) (fun k hk=>?_) ?_) rfl
 ·have a:=h.l0 k hk
  have b:=h.lh k hk
  have c:=h.h9 k hk
  rw [ltI (by omega),cond_true,row_idx hk,Option.bind_some,geI (by omega),notF,cond_true,cond_true,row_idx hk,Option.bind_some,Option.bind_some,orF,geI (by omega),notF,cond_true,Option.bind_some,orF,geI (by omega),cond_false,wrap_in (by omega) (by omega)]
 ·rw [geI (by omega),cond_false]
def RngF (t:Fld):Prop:=t.2.2.1.length≤maxLen∧t.2.2.2.length≤maxLen
theorem valid_cases (t:Fld) (hr:RngF t):(∃ W H lo hi,OkF W H lo hi∧t=fd W H lo hi)∨(m17 t=some false∧m18 t=some false):=by
 obtain ⟨W,H,Lo,Hi⟩:=t
 have hr1:Lo.length≤9223372036854775807:=hr.1
 have hr2:Hi.length≤9223372036854775807:=hr.2
 unfold m17 m18
 dsimp only
 by_cases hW:1≤W∧W≤6
 case neg =>
  right
  refine ⟨?_,?_⟩
  ·rw [within_ok,Option.bind_some,decide_eq_false hW];rfl
  ·by_cases h1:W<1
   ·rw [ltI h1,orT];rfl
   ·rw [geI (by omega),orF,ltI (by omega),orT];rfl
 by_cases hH:1≤H∧H≤6
 case neg =>
  right
  refine ⟨?_,?_⟩
  ·rw [within_ok,Option.bind_some,decide_eq_true hW,notT,notF,cond_true,within_ok,Option.bind_some,decide_eq_false hH];rfl
  ·rw [geI (by omega),orF,geI (by omega),orF]
   by_cases h1:H<1
   ·rw [ltI h1,orT];rfl
   ·rw [geI (by omega),orF,ltI (by omega),orT];rfl
 obtain ⟨w,rfl⟩:∃ w:Nat,W=w:=⟨W.toNat,by omega⟩
 obtain ⟨h,rfl⟩:∃ h:Nat,H=h:=⟨H.toNat,by omega⟩
 have w6:w≤6:=by omega
 have h6:h≤6:=by omega
 have h49:=nn_bd w6 h6
 by_cases hl:Lo.length=nn w h∧Hi.length=nn w h
 case neg =>
  right
  rw [within_ok,Option.bind_some,decide_eq_true hW,notT,notF,cond_true,within_ok,Option.bind_some,decide_eq_true hH,notT,orF,orF,nn_wrap w6 h6]
  rw [geI (a:=(w:Int)) (by omega),orF,geI (a:=6) (b:=(w:Int)) (by omega),orF,geI (a:=(h:Int)) (by omega),orF,geI (a:=6) (b:=(h:Int)) (by omega),orF]
  by_cases h1:Lo.length=nn w h
  ·rw [eqI (a:=lenM Lo) (by rw [lenL];omega),notT,orF,neI (a:=lenM Hi) (by rw [lenL,lenL];omega),notF];exact ⟨rfl,rfl⟩
  ·rw [neI (a:=lenM Lo) (by rw [lenL];omega),notF,orT];exact ⟨rfl,rfl⟩
 have e1:=list_row Lo 0
 have e2:=list_row Hi 0
 rw [hl.1] at e1
 rw [hl.2] at e2
 generalize (fun i=>Lo.getD i 0)=lo at e1
 generalize (fun i=>Hi.getD i 0)=hi at e2
 subst e1 e2
 by_cases hb:∃ k,k<nn w h∧¬ (0≤lo k∧lo k≤hi k∧hi k≤100)
 ·right
  rw [within_ok,Option.bind_some,decide_eq_true hW,notT,notF,cond_true,within_ok,Option.bind_some,decide_eq_true hH,notT,orF,orF,lenR,lenR,nn_wrap w6 h6,eqI rfl,notT,orF,cond_false]
  rw [geI (a:=(w:Int)) (by omega),orF,geI (a:=6) (b:=(w:Int)) (by omega),orF,geI (a:=(h:Int)) (by omega),orF,geI (a:=6) (b:=(h:Int)) (by omega),orF,orF,cond_false]
  refine ⟨bind_of (bad_loop (n:=nn w h) _ hb fun k hk=>?_) rfl,bind_of (bad_loop (n:=nn w h) _ hb fun k hk=>?_) rfl⟩
  ·rw [ltI (by omega),cond_true,row_idx hk,Option.bind_some,row_idx hk,Option.bind_some,within_ok,Option.bind_some]
   refine ⟨fun hbad=>?_,fun hgood=>?_⟩
   ·by_cases h1:0≤lo k∧lo k≤hi k
    ·rw [decide_eq_true h1,notT,notF,cond_true,Option.bind_some,orF,ltI (by omega),cond_true]
    ·rw [decide_eq_false h1];rfl
   ·have h1:0≤lo k∧lo k≤hi k∧hi k≤100:=Classical.not_not.1 hgood
    rw [decide_eq_true ⟨h1.1,h1.2.1⟩,notT,notF,cond_true,Option.bind_some,orF,geI (by omega),cond_false,wrap_in (by omega) (by omega)]
  ·rw [ltI (by omega),cond_true,row_idx hk,Option.bind_some]
   refine ⟨fun hbad=>?_,fun hgood=>?_⟩
   ·by_cases h1:lo k<0
    ·rw [ltI h1];rfl
    ·rw [geI (by omega),notF,cond_true,cond_true,row_idx hk,Option.bind_some,Option.bind_some,orF]
     by_cases h2:hi k<lo k
     ·rw [ltI h2];rfl
     ·rw [geI (by omega),notF,cond_true,Option.bind_some,orF,ltI (by omega),cond_true]
   ·have h1:0≤lo k∧lo k≤hi k∧hi k≤100:=Classical.not_not.1 hgood
    rw [geI (by omega),notF,cond_true,cond_true,row_idx hk,Option.bind_some,Option.bind_some,orF,geI (by omega),notF,cond_true,Option.bind_some,orF,geI (by omega),cond_false,wrap_in (by omega) (by omega)]
 ·left
  have hg:∀ k,k<nn w h→0≤lo k∧lo k≤hi k∧hi k≤100:=fun k hk=>Classical.not_not.1 fun h=>hb ⟨k,hk,h⟩
  exact ⟨w,h,lo,hi,⟨by omega,by omega,by omega,by omega,fun i hi=>(hg i hi).1,fun i hi=>(hg i hi).2.1,fun i hi=>(hg i hi).2.2⟩,rfl⟩
theorem made_same (t:Fld) (hr:RngF t):∃ r,m55 t=some r∧m56 t=some r∧(r=(t,0)∨r=((0,0,[],[]),250)):=by
 obtain ⟨W,H,Lo,Hi⟩:=t
 unfold m55 m56
 dsimp only
 rcases valid_cases (W,H,Lo,Hi) hr with ⟨w,h,lo,hi,hF,e⟩ | ⟨e1,e2⟩
 ·have a:=valid_ok hF
  have b:=valid2_ok hF
  rw [← e] at a b
  rw [a,b]
  exact ⟨_,rfl,rfl,.inl rfl⟩
 ·rw [e1,e2]
  exact ⟨_,rfl,rfl,.inr rfl⟩
end Go.Proofs.YtdaaoecjdhipjaaGreatDoor
namespace Go.Proofs.YtdaaoecjdhipjaaGreatDoor
open Go Go.Abs Go.PE
def nv (W:Nat) (v:Nat→Int) (x y:Int):Int:=v (y*((W:Int)+1)+x).toNat
def lowT (W:Nat) (v:Nat→Int) (cx cy x y d:Int):Int:=(d-(x-cx*d))*nv W v cx cy+((x-cx*d)-(y-cy*d))*nv W v (cx+1) cy+(y-cy*d)*nv W v (cx+1) (cy+1)
def uppT (W:Nat) (v:Nat→Int) (cx cy x y d:Int):Int:=(d-(y-cy*d))*nv W v cx cy+((y-cy*d)-(x-cx*d))*nv W v cx (cy+1)+(x-cx*d)*nv W v (cx+1) (cy+1)
def atv (W H:Nat) (v:Nat→Int) (x y d:Int):Int :=
 if y-min (y / d) ((H:Int)-1)*d≤x-min (x / d) ((W:Int)-1)*d then lowT W v (min (x / d) ((W:Int)-1)) (min (y / d) ((H:Int)-1)) x y d
 else uppT W v (min (x / d) ((W:Int)-1)) (min (y / d) ((H:Int)-1)) x y d
theorem cell_bd {W:Nat} {x d:Int} (hW:1≤W) (hd:1≤d) (h0:0≤x) (h1:x≤W*d):0≤min (x / d) ((W:Int)-1)∧min (x / d) ((W:Int)-1)≤(W:Int)-1∧min (x / d) ((W:Int)-1)*d≤x∧x-min (x / d) ((W:Int)-1)*d≤d:=by
 have hq:=Int.ediv_nonneg h0 (show 0≤d by omega)
 have hm:x / d*d≤x:=Int.ediv_mul_le x (by omega)
 have hlt:x<(x / d+1)*d:=Int.lt_ediv_add_one_mul_self x (by omega)
 rw [Int.add_mul,Int.one_mul] at hlt
 by_cases h:x / d≤(W:Int)-1
 ·rw [Int.min_eq_left h]
  exact ⟨hq,h,hm,by omega⟩
 ·rw [Int.min_eq_right (by omega)]
  have e:((W:Int)-1)*d=W*d-d:=by rw [Int.sub_mul,Int.one_mul]
  have h2:(W:Int)*d≤x / d*d:=Int.mul_le_mul_of_nonneg_right (by omega) (by omega)
  exact ⟨by omega,Int.le_refl _,by omega,by omega⟩
theorem cell_or {W:Nat} {x d c:Int} (hW:1≤W) (hd:1≤d) (h0:0≤x) (h1:x≤W*d) (hc:c≤(W:Int)-1) (g1:c*d≤x) (g2:x≤(c+1)*d) :
  c=min (x / d) ((W:Int)-1)∨(c+1=min (x / d) ((W:Int)-1)∧x=(c+1)*d):=by
 obtain ⟨b0,b1,b2,b3⟩:=cell_bd hW hd h0 h1
 have hlt:x<(x / d+1)*d:=Int.lt_ediv_add_one_mul_self x (by omega)
 generalize hp:min (x / d) ((W:Int)-1)=p at *
 rcases Int.lt_trichotomy c p with h | h | h
 ·right
  have h2:(c+1)*d≤p*d:=Int.mul_le_mul_of_nonneg_right (by omega) (by omega)
  have h3:p*d=(c+1)*d:=by omega
  exact ⟨(Int.eq_of_mul_eq_mul_right (by omega) h3).symm,by omega⟩
 ·exact .inl h
 ·exfalso
  have h4:p=x / d:=by
   rcases Int.le_total (x / d) ((W:Int)-1) with h5 | h5
   ·rw [Int.min_eq_left h5] at hp;exact hp.symm
   ·rw [Int.min_eq_right h5] at hp;omega
  have h6:(x / d+1)*d≤c*d:=Int.mul_le_mul_of_nonneg_right (by omega) (by omega)
  omega
theorem atv_low {W H:Nat} {v:Nat→Int} {x y d cx cy:Int} (hW:1≤W) (hH:1≤H) (hd:1≤d) (x0:0≤x) (x1:x≤W*d) (y0:0≤y) (y1:y≤H*d) (hcx:cx≤(W:Int)-1) (hcy:cy≤(H:Int)-1)
  (g1:x-cx*d≤d) (g2:y-cy*d≤x-cx*d) (g3:0≤y-cy*d):lowT W v cx cy x y d=atv W H v x y d:=by
 have ex:(cx+1)*d=cx*d+d:=by rw [Int.add_mul,Int.one_mul]
 have ey:(cy+1)*d=cy*d+d:=by rw [Int.add_mul,Int.one_mul]
 have hx:=cell_or hW hd x0 x1 hcx (by omega) (by omega)
 have hy:=cell_or hH hd y0 y1 hcy (by omega) (by omega)
 unfold atv
 generalize min (x / d) ((W:Int)-1)=px at *
 generalize min (y / d) ((H:Int)-1)=py at *
 rcases hx with rfl | ⟨rfl,e1⟩<;>rcases hy with rfl | ⟨rfl,e2⟩
 ·rw [if_pos g2]
 ·have h0:y-(cy+1)*d=0:=by omega
  have h1:x-cx*d=d:=by omega
  have h2:y-cy*d=d:=by omega
  rw [if_pos (by omega)]
  unfold lowT
  rw [h0,h1,h2]
  simp
 ·have h0:x-(cx+1)*d=0:=by omega
  have h1:x-cx*d=d:=by omega
  by_cases h3:y-cy*d≤x-(cx+1)*d
  ·have h4:y-cy*d=0:=by omega
   rw [if_pos h3]
   unfold lowT
   rw [h0,h1,h4]
   simp
  ·rw [if_neg h3]
   unfold lowT uppT
   rw [h0,h1]
   simp
 ·have h0:x-(cx+1)*d=0:=by omega
  have h1:x-cx*d=d:=by omega
  have h2:y-(cy+1)*d=0:=by omega
  have h3:y-cy*d=d:=by omega
  rw [if_pos (by omega)]
  unfold lowT
  rw [h0,h1,h2,h3]
  simp
theorem atv_upp {W H:Nat} {v:Nat→Int} {x y d cx cy:Int} (hW:1≤W) (hH:1≤H) (hd:1≤d) (x0:0≤x) (x1:x≤W*d) (y0:0≤y) (y1:y≤H*d) (hcx:cx≤(W:Int)-1) (hcy:cy≤(H:Int)-1)
  (g1:y-cy*d≤d) (g2:x-cx*d≤y-cy*d) (g3:0≤x-cx*d):uppT W v cx cy x y d=atv W H v x y d:=by
 have ex:(cx+1)*d=cx*d+d:=by rw [Int.add_mul,Int.one_mul]
 have ey:(cy+1)*d=cy*d+d:=by rw [Int.add_mul,Int.one_mul]
 have hx:=cell_or hW hd x0 x1 hcx (by omega) (by omega)
 have hy:=cell_or hH hd y0 y1 hcy (by omega) (by omega)
 unfold atv
 generalize min (x / d) ((W:Int)-1)=px at *
 generalize min (y / d) ((H:Int)-1)=py at *
 rcases hx with rfl | ⟨rfl,e1⟩<;>rcases hy with rfl | ⟨rfl,e2⟩
 ·by_cases h:y-cy*d≤x-cx*d
  ·have e:y-cy*d=x-cx*d:=by omega
   rw [if_pos h]
   unfold lowT uppT
   rw [e]
   simp
  ·rw [if_neg h]
 ·have h0:y-(cy+1)*d=0:=by omega
  have h2:y-cy*d=d:=by omega
  rw [if_pos (by omega)]
  unfold lowT uppT
  rw [h0,h2]
  simp
 ·have h0:x-(cx+1)*d=0:=by omega
  have h1:x-cx*d=d:=by omega
  have h2:y-cy*d=d:=by omega
  rw [if_neg (by omega)]
  unfold uppT
  rw [h0,h1,h2]
  simp
 ·have h0:x-(cx+1)*d=0:=by omega
  have h1:x-cx*d=d:=by omega
  have h2:y-(cy+1)*d=0:=by omega
  have h3:y-cy*d=d:=by omega
  rw [if_pos (by omega)]
  unfold lowT uppT
  rw [h0,h1,h2,h3]
  simp
end Go.Proofs.YtdaaoecjdhipjaaGreatDoor
namespace Go.Proofs.YtdaaoecjdhipjaaGreatDoor
open Go Go.Abs Go.PE
open Go.IntKind (wrap)
structure OkV (W H:Nat) (v:Nat→Int):Prop where
 w1:1≤W
 w6:W≤6
 h1:1≤H
 h6:H≤6
 v:∀ i,i<nn W H→0≤v i∧v i≤100
theorem OkF.okLo {W H:Nat} {lo hi:Nat→Int} (h:OkF W H lo hi):OkV W H lo:=⟨h.w1,h.w6,h.h1,h.h6,fun i hi=>by have:=h.l0 i hi;have:=h.lh i hi;have:=h.h9 i hi;omega⟩
theorem OkF.okHi {W H:Nat} {lo hi:Nat→Int} (h:OkF W H lo hi):OkV W H hi:=⟨h.w1,h.w6,h.h1,h.h6,fun i hi=>by have:=h.l0 i hi;have:=h.lh i hi;have:=h.h9 i hi;omega⟩
theorem node_bd {W H:Nat} {cx cy:Int} (x0:0≤cx) (x1:cx≤W) (y0:0≤cy) (y1:cy≤H):0≤cy*((W:Int)+1)∧0≤cy*((W:Int)+1)+cx∧cy*((W:Int)+1)+cx<nn W H:=by
 have h1:=Int.mul_nonneg y0 (show (0:Int)≤(W:Int)+1 by omega)
 have h2:=Int.mul_le_mul_of_nonneg_right y1 (show (0:Int)≤(W:Int)+1 by omega)
 have e:(nn W H:Int)=(H:Int)*((W:Int)+1)+((W:Int)+1):=by
  unfold nn
  rw [Int.natCast_mul,Int.mul_comm]
  show ((H:Int)+1)*((W:Int)+1)=_
  rw [Int.add_mul,Int.one_mul]
 omega
theorem nv_bd {W H:Nat} {v:Nat→Int} (h:OkV W H v) {cx cy:Int} (x0:0≤cx) (x1:cx≤W) (y0:0≤cy) (y1:cy≤H):0≤nv W v cx cy∧nv W v cx cy≤100:=by
 obtain ⟨_,b,c⟩:=node_bd x0 x1 y0 y1
 exact h.v _ (by omega)
theorem node_ok {W H:Nat} {v:Nat→Int} (w6:W≤6) (h6:H≤6) {cx cy:Int} (x0:0≤cx) (x1:cx≤W) (y0:0≤cy) (y1:cy≤H):idxM (row (nn W H) v) (wrap IntKind.i64 (wrap IntKind.i64 (cy*wrap IntKind.i64 ((W:Int)+1))+cx))=some (nv W v cx cy):=by
 obtain ⟨a,b,c⟩:=node_bd x0 x1 y0 y1
 have h49:=nn_bd w6 h6
 rw [wrap_in (n:=(W:Int)+1) (by omega) (by omega),wrap_in (n:=cy*_) (by omega) (by omega),wrap_in (by omega) (by omega),row_idxI b c];rfl
theorem prod_bd {a b A B:Int} (a0:0≤a) (a1:a≤A) (b0:0≤b) (b1:b≤B):0≤a*b∧a*b≤A*B :=
 ⟨Int.mul_nonneg a0 b0,Int.mul_le_mul a1 b1 b0 (by omega)⟩
def atE (W H:Int) (L:List Int) (x y d r_4 r_5:Int):Option Int :=
 (idxM L (wrap IntKind.i64 (wrap IntKind.i64 (wrap IntKind.i64 (min r_5 (wrap IntKind.i64 (H-1))+1)*wrap IntKind.i64 (W+1))+wrap IntKind.i64 (min r_4 (wrap IntKind.i64 (W-1))+1)))).bind fun r_6=>bif leM (wrap IntKind.i64 (y -
 wrap IntKind.i64 (min r_5 (wrap IntKind.i64 (H-1))*d))) (wrap IntKind.i64 (x-wrap IntKind.i64 (min r_4 (wrap IntKind.i64 (W-1)) *
 d))) then ((idxM L (wrap IntKind.i64 (wrap IntKind.i64 (min r_5 (wrap IntKind.i64 (H-1))*wrap IntKind.i64 (W+1))+min r_4 (wrap
 IntKind.i64 (W-1))))).bind fun r=>some r).bind fun (ov:Int)=>((idxM L (wrap IntKind.i64 (wrap IntKind.i64 (min r_5 (wrap IntKind.i64
 (H-1))*wrap IntKind.i64 (W+1))+wrap IntKind.i64 (min r_4 (wrap IntKind.i64 (W-1))+1)))).bind fun r=>some r).bind fun (ov_1:Int)
 => some (wrap IntKind.i64 (wrap IntKind.i64 (wrap IntKind.i64 (wrap IntKind.i64 (d-wrap IntKind.i64 (x-wrap IntKind.i64 (min r_4 (wrap
 IntKind.i64 (W-1))*d)))*ov)+wrap IntKind.i64 (wrap IntKind.i64 (wrap IntKind.i64 (x-wrap IntKind.i64 (min r_4 (wrap IntKind.i64 (W
 - 1))*d))-wrap IntKind.i64 (y-wrap IntKind.i64 (min r_5 (wrap IntKind.i64 (H-1))*d)))*ov_1))+wrap IntKind.i64 (wrap
 IntKind.i64 (y-wrap IntKind.i64 (min r_5 (wrap IntKind.i64 (H-1))*d))*r_6))) else ((idxM L (wrap IntKind.i64 (wrap
 IntKind.i64 (min r_5 (wrap IntKind.i64 (H-1))*wrap IntKind.i64 (W+1))+min r_4 (wrap IntKind.i64 (W-1))))).bind fun r=>some r).bind
 fun (ov:Int)=>((idxM L (wrap IntKind.i64 (wrap IntKind.i64 (wrap IntKind.i64 (min r_5 (wrap IntKind.i64 (H-1))+1)*wrap IntKind.i64
 (W+1))+min r_4 (wrap IntKind.i64 (W-1))))).bind fun r=>some r).bind fun (ov_1:Int)=>some (wrap IntKind.i64 (wrap IntKind.i64 (wrap
 IntKind.i64 (wrap IntKind.i64 (d-wrap IntKind.i64 (y-wrap IntKind.i64 (min r_5 (wrap IntKind.i64 (H-1))*d)))*ov)+wrap
 IntKind.i64 (wrap IntKind.i64 (wrap IntKind.i64 (y-wrap IntKind.i64 (min r_5 (wrap IntKind.i64 (H-1))*d))-wrap IntKind.i64 (x -
 wrap IntKind.i64 (min r_4 (wrap IntKind.i64 (W-1))*d)))*ov_1))+wrap IntKind.i64 (wrap IntKind.i64 (x-wrap IntKind.i64 (min r_4 (wrap
 IntKind.i64 (W-1))*d))*r_6)))
theorem atE_ok {W H:Nat} {v:Nat→Int} (h:OkV W H v) {x y d:Int} (hd:1≤d) (hd2:d≤60) (x0:0≤x) (x1:x≤W*d) (y0:0≤y) (y1:y≤H*d) :
  atE W H (row (nn W H) v) x y d (x / d) (y / d)=some (atv W H v x y d):=by
 have w1:=h.w1
 have w6:=h.w6
 have h1:=h.h1
 have h6:=h.h6
 obtain ⟨a0,a1,a2,a3⟩:=cell_bd w1 hd x0 x1
 obtain ⟨b0,b1,b2,b3⟩:=cell_bd h1 hd y0 y1
 unfold atE atv
 rw [wrap_in (n:=(W:Int)-1) (by omega) (by omega),wrap_in (n:=(H:Int)-1) (by omega) (by omega)]
 generalize min (x / d) ((W:Int)-1)=px at *
 generalize min (y / d) ((H:Int)-1)=py at *
 have p1:=prod_bd a0 (show px≤6 by omega) (show 0≤d by omega) hd2
 have p2:=prod_bd b0 (show py≤6 by omega) (show 0≤d by omega) hd2
 have n00:=nv_bd h (cx:=px) (cy:=py) a0 (by omega) b0 (by omega)
 have n10:=nv_bd h (cx:=px+1) (cy:=py) (by omega) (by omega) b0 (by omega)
 have n01:=nv_bd h (cx:=px) (cy:=py+1) a0 (by omega) (by omega) (by omega)
 have n11:=nv_bd h (cx:=px+1) (cy:=py+1) (by omega) (by omega) (by omega) (by omega)
 rw [wrap_in (n:=px*d) (by omega) (by omega),wrap_in (n:=py*d) (by omega) (by omega),wrap_in (n:=px+1) (by omega) (by omega),wrap_in (n:=py+1) (by omega) (by omega),wrap_in (n:=x-px*d) (by omega) (by omega),wrap_in (n:=y-py*d) (by omega) (by omega),
  node_ok w6 h6 (by omega) (by omega) (by omega) (by omega),Option.bind_some]
 unfold lowT uppT
 generalize hR:x-px*d=R at *
 generalize hU:y-py*d=U at *
 by_cases hc:U≤R
 ·have q1:=prod_bd (show 0≤d-R by omega) (show d-R≤60 by omega) n00.1 n00.2
  have q2:=prod_bd (show 0≤R-U by omega) (show R-U≤60 by omega) n10.1 n10.2
  have q3:=prod_bd (show 0≤U by omega) (show U≤60 by omega) n11.1 n11.2
  rw [leI hc,cond_true,if_pos hc,node_ok w6 h6 a0 (by omega) b0 (by omega),Option.bind_some,Option.bind_some,node_ok w6 h6 (by omega) (by omega) b0 (by omega),Option.bind_some,Option.bind_some,
   wrap_in (n:=d-R) (by omega) (by omega),wrap_in (n:=R-U) (by omega) (by omega),wrap_in (n:=(d-R)*_) (by omega) (by omega),wrap_in (n:=(R-U)*_) (by omega) (by omega),wrap_in (n:=U*_) (by omega) (by omega),wrap_in (n:=_+(R-U)*_) (by omega) (by omega),wrap_in (by omega) (by omega)]
 ·have q1:=prod_bd (show 0≤d-U by omega) (show d-U≤60 by omega) n00.1 n00.2
  have q2:=prod_bd (show 0≤U-R by omega) (show U-R≤60 by omega) n01.1 n01.2
  have q3:=prod_bd (show 0≤R by omega) (show R≤60 by omega) n11.1 n11.2
  rw [gtI (by omega),cond_false,if_neg hc,node_ok w6 h6 a0 (by omega) b0 (by omega),Option.bind_some,Option.bind_some,node_ok w6 h6 (by omega) (by omega) (by omega) (by omega),Option.bind_some,Option.bind_some,
   wrap_in (n:=d-U) (by omega) (by omega),wrap_in (n:=U-R) (by omega) (by omega),wrap_in (n:=(d-U)*_) (by omega) (by omega),wrap_in (n:=(U-R)*_) (by omega) (by omega),wrap_in (n:=R*_) (by omega) (by omega),wrap_in (n:=_+(U-R)*_) (by omega) (by omega),wrap_in (by omega) (by omega)]
def atR (W H:Nat) (lo hi:Nat→Int) (x y d:Int):Int×Int×Int:=if 1≤d∧d≤60∧0≤x∧x≤W*d∧0≤y∧y≤H*d then (atv W H lo x y d,atv W H hi x y d,0) else (0,0,250)
theorem wd_bd {W:Nat} {d:Int} (w6:W≤6) (hd:1≤d) (hd2:d≤60):wrap IntKind.i64 ((W:Int)*d)=W*d:=by
 have:=prod_bd (a:=(W:Int)) (b:=d) (by omega) (show (W:Int)≤6 by omega) (by omega) hd2
 rw [wrap_in (by omega) (by omega)]
theorem tdiv_nn {x d:Int} (hx:0≤x) (hx2:x≤1000000) (hd:1≤d):divM IntKind.i64 x d=some (x / d):=by
 have h1:=Int.ediv_nonneg hx (show 0≤d by omega)
 have h2:=Int.ediv_le_self d hx
 rw [divM_pos (by omega),Int.tdiv_eq_ediv_of_nonneg hx,wrap_in (by omega) (by omega)]
theorem at_ok {W H:Nat} {lo hi:Nat→Int} (h:OkF W H lo hi) (x y d:Int):m20 (fd W H lo hi,x,y,d)=some (atR W H lo hi x y d):=by
 have w6:=h.w6
 have h6:=h.h6
 unfold m20
 have v1:=valid_ok h
 unfold fd at v1 ⊢
 dsimp only
 rw [v1,Option.bind_some,notT,notF,cond_true,within_ok,Option.bind_some,orF]
 unfold atR
 by_cases hd:1≤d∧d≤60
 case neg=>rw [decide_eq_false hd,if_neg (by omega)];rfl
 rw [decide_eq_true hd,notT,notF,cond_true,wd_bd w6 hd.1 hd.2,within_ok,Option.bind_some,orF]
 by_cases hx:0≤x∧x≤(W:Int)*d
 case neg=>rw [decide_eq_false hx,if_neg (fun h=>hx ⟨h.2.2.1,h.2.2.2.1⟩)];rfl
 rw [decide_eq_true hx,notT,notF,cond_true,wd_bd h6 hd.1 hd.2,within_ok,Option.bind_some,orF]
 by_cases hy:0≤y∧y≤(H:Int)*d
 case neg=>rw [decide_eq_false hy,if_neg (fun h=>hy h.2.2.2.2)];rfl
 have p1:=prod_bd (a:=(W:Int)) (b:=d) (by omega) (show (W:Int)≤6 by omega) (by omega) hd.2
 have p2:=prod_bd (a:=(H:Int)) (b:=d) (by omega) (show (H:Int)≤6 by omega) (by omega) hd.2
 rw [decide_eq_true hy,notT,cond_false,if_pos ⟨hd.1,hd.2,hx.1,hx.2,hy.1,hy.2⟩,tdiv_nn hx.1 (by omega) hd.1,Option.bind_some,tdiv_nn hy.1 (by omega) hd.1,Option.bind_some]
 refine bind_of (atE_ok h.okLo hd.1 hd.2 hx.1 hx.2 hy.1 hy.2) ?_
 refine bind_of (atE_ok h.okHi hd.1 hd.2 hx.1 hx.2 hy.1 hy.2) rfl
end Go.Proofs.YtdaaoecjdhipjaaGreatDoor
namespace Go.Proofs.YtdaaoecjdhipjaaGreatDoor
open Go Go.Abs Go.PE
open Go.IntKind (wrap)
abbrev Cor:=Int×Int×Int
abbrev Tri:=Cor×Cor×Cor
def nd (W:Nat) (v:Nat→Int) (x y:Int):Cor:=(x,y,nv W v x y)
def triF (W:Nat) (v:Nat→Int) (k:Nat):Tri :=
 let cx:Int:=((k / 2 % W:Nat):Int)
 let cy:Int:=((k / 2 / W:Nat):Int)
 if k % 2=0 then (nd W v cx cy,nd W v (cx+1) cy,nd W v (cx+1) (cy+1)) else (nd W v cx cy,nd W v (cx+1) (cy+1),nd W v cx (cy+1))
theorem triF_low {W:Nat} (v:Nat→Int) {cx cy:Nat} (h:cx<W):triF W v (2*(cy*W+cx))=(nd W v cx cy,nd W v (cx+1) cy,nd W v (cx+1) (cy+1)):=by
 unfold triF
 rw [show 2*(cy*W+cx) / 2=cy*W+cx by omega,if_pos (by omega),Nat.mul_comm cy W,Nat.mul_add_mod,Nat.mod_eq_of_lt h,Nat.mul_add_div (by omega),Nat.div_eq_of_lt h,Nat.add_zero]
theorem triF_upp {W:Nat} (v:Nat→Int) {cx cy:Nat} (h:cx<W):triF W v (2*(cy*W+cx)+1)=(nd W v cx cy,nd W v (cx+1) (cy+1),nd W v cx (cy+1)):=by
 unfold triF
 rw [show (2*(cy*W+cx)+1) / 2=cy*W+cx by omega,if_neg (by omega),Nat.mul_comm cy W,Nat.mul_add_mod,Nat.mod_eq_of_lt h,Nat.mul_add_div (by omega),Nat.div_eq_of_lt h,Nat.add_zero]
theorem corner_ok {W H:Nat} {v:Nat→Int} {lo hi:List Int} (w6:W≤6) (h6:H≤6) {cx cy:Int} (x0:0≤cx) (x1:cx≤W) (y0:0≤cy) (y1:cy≤H):m124 (((W:Int),(H:Int),lo,hi),row (nn W H) v,cx,cy)=some (nd W v cx cy):=by
 unfold m124
 dsimp only
 rw [node_ok w6 h6 x0 x1 y0 y1];rfl
theorem tris_ok {W H:Nat} {v:Nat→Int} {lo hi:List Int} (w6:W≤6) (h6:H≤6):m88 (((W:Int),(H:Int),lo,hi),row (nn W H) v)=some (row (2*(H*W)) (triF W v)):=by
 unfold m88
 have hWH:H*W≤36:=Nat.mul_le_mul h6 w6
 refine bind_of (x:=row (2*(H*W)) (triF W v)) ?_ rfl
 have e0:([]:List Tri)=row (2*(0*W)) (triF W v):=by rw [Nat.zero_mul,Nat.mul_zero,row_zero]
 refine Eq.trans (congrArg (fun l=>loopM _ ((0:Int),l)) e0) (count_loop (fun cy=>row (2*(cy*W)) (triF W v)) H (fun cy hy=>?_) ?_)
 ·dsimp only
  rw [ltI (by omega),cond_true,wrap_in (n:=(cy:Int)+1) (by omega) (by omega)]
  refine bind_of (x:=row (2*((cy+1)*W)) (triF W v)) ?_ rfl
  have e1:row (2*(cy*W)) (triF W v)=row (2*(cy*W+0)) (triF W v):=rfl
  rw [e1]
  refine count_loop (fun cx=>row (2*(cy*W+cx)) (triF W v)) W (fun cx hx=>?_) ?_
  ·dsimp only
   have hb:cy*W+cx+1≤36:=by
    have:(cy+1)*W≤H*W:=Nat.mul_le_mul_right _ hy
    rw [Nat.add_mul,Nat.one_mul] at this
    omega
   rw [ltI (by omega),cond_true,wrap_in (n:=(cx:Int)+1) (by omega) (by omega),corner_ok w6 h6 (by omega) (by omega) (by omega) (by omega),Option.bind_some,corner_ok w6 h6 (by omega) (by omega) (by omega) (by omega),Option.bind_some,corner_ok w6 h6 (by omega) (by omega) (by omega) (by omega),Option.bind_some,corner_ok w6 h6 (by omega) (by omega) (by omega) (by omega),Option.bind_some]
   rw [appM_of (by rw [row_length];show (2*(cy*W+cx)+2)*72≤_;omega),Option.bind_some]
   have e2:2*(cy*W+(cx+1))=2*(cy*W+cx)+1+1:=by omega
   rw [e2,row_succ,row_succ,triF_low v hx,triF_upp v hx,List.append_assoc]
   rfl
  ·dsimp only
   rw [geI (by omega),cond_false,Nat.add_mul,Nat.one_mul]
 ·dsimp only
  rw [geI (by omega),cond_false]
theorem area_ok {a b c d e f:Int} (h1:0≤a∧a≤360) (h2:0≤b∧b≤360) (h3:0≤c∧c≤360) (h4:0≤d∧d≤360) (h5:0≤e∧e≤360) (h6:0≤f∧f≤360) :
  m89 (a,b,c,d,e,f)=some ((c-a)*(f-b)-(d-b)*(e-a)):=by
 unfold m89
 have hm:∀ x y:Int,(-360≤x∧x≤360)→(-360≤y∧y≤360)→-129600≤x*y∧x*y≤129600:=fun x y hx hy=>by
  have h1:=Int.mul_nonneg (show 0≤360-x by omega) (show 0≤360+y by omega)
  have h2:=Int.mul_nonneg (show 0≤360+x by omega) (show 0≤360-y by omega)
  have h3:=Int.mul_nonneg (show 0≤360-x by omega) (show 0≤360-y by omega)
  have h4:=Int.mul_nonneg (show 0≤360+x by omega) (show 0≤360+y by omega)
  rw [Int.sub_mul,Int.mul_add,Int.mul_add] at h1
  rw [Int.add_mul,Int.mul_sub,Int.mul_sub] at h2
  rw [Int.sub_mul,Int.mul_sub,Int.mul_sub] at h3
  rw [Int.add_mul,Int.mul_add,Int.mul_add] at h4
  omega
 have g1:=hm (c-a) (f-b) (by omega) (by omega)
 have g2:=hm (d-b) (e-a) (by omega) (by omega)
 dsimp only
 rw [wrap_in (n:=c-a) (by omega) (by omega),wrap_in (n:=f-b) (by omega) (by omega),wrap_in (n:=d-b) (by omega) (by omega),wrap_in (n:=e-a) (by omega) (by omega),wrap_in (n:=(c-a)*_) (by omega) (by omega),wrap_in (n:=(d-b)*_) (by omega) (by omega),wrap_in (by omega) (by omega)]
def triE (r:Tri) (x y d s:Int):Option (Int⊕(Unit⊕Int)) :=
 (m89 (wrap IntKind.i64 (r.2.1.1*d),wrap IntKind.i64 (r.2.1.2.1*d),wrap IntKind.i64 (r.2.2.1*d),wrap IntKind.i64 (r.2.2.2.1*d),x,y)).bind fun r_4=>(m89 (wrap IntKind.i64 (r.2.2.1*d),wrap
 IntKind.i64 (r.2.2.2.1*d),wrap IntKind.i64 (r.1.1*d),wrap IntKind.i64 (r.1.2.1*d),x,y)).bind fun r_5 =>
 (m89 (wrap IntKind.i64 (r.1.1*d),wrap IntKind.i64 (r.1.2.1*d),wrap IntKind.i64 (r.2.1.1*d),wrap IntKind.i64
 (r.2.1.2.1*d),x,y)).bind fun r_6=>bif PE.andM (PE.andM (leM 0 r_4) (leM 0 r_5)) (leM 0 r_6) then (divM IntKind.i64 (wrap
 IntKind.i64 (wrap IntKind.i64 (wrap IntKind.i64 (r_4*r.1.2.2)+wrap IntKind.i64 (r_5*r.2.1.2.2))+wrap IntKind.i64 (r_6*r.2.2.2.2)))
 d).bind fun r=>some (Sum.inr (Sum.inr r)) else some (Sum.inl (wrap IntKind.i64 (s+1)))
theorem triE_gen {ax ay av bx byy bv cx cy cv x y d u v w q s:Int} (hd:1≤d) (hd2:d≤60) (a1:0≤ax∧ax≤6) (a2:0≤ay∧ay≤6) (a3:0≤av∧av≤100) (b1:0≤bx∧bx≤6) (b2:0≤byy∧byy≤6) (b3:0≤bv∧bv≤100)
  (c1:0≤cx∧cx≤6) (c2:0≤cy∧cy≤6) (c3:0≤cv∧cv≤100) (hx:0≤x∧x≤360) (hy:0≤y∧y≤360) (hs:0≤s∧s≤1000)
  (eu:(cx*d-bx*d)*(y-byy*d)-(cy*d-byy*d)*(x-bx*d)=d*u) (ev:(ax*d-cx*d)*(y-cy*d)-(ay*d-cy*d)*(x-cx*d)=d*v) (ew:(bx*d-ax*d)*(y-ay*d)-(byy*d-ay*d)*(x-ax*d)=d*w)
  (bu:-1000≤u∧u≤1000) (bv':-1000≤v∧v≤1000) (bw:-1000≤w∧w≤1000) (eq:u*av+v*bv+w*cv=q) :
  triE ((ax,ay,av),(bx,byy,bv),(cx,cy,cv)) x y d s=if 0≤u∧0≤v∧0≤w then some (.inr (.inr q)) else some (.inl (s+1)):=by
 have hm:∀ z:Int,0≤z∧z≤6→0≤z*d∧z*d≤360:=fun z hz=>by have:=prod_bd hz.1 hz.2 (show 0≤d by omega) hd2;omega
 have hs2:∀ z:Int,(-1000≤z∧z≤1000)→-60000≤d*z∧d*z≤60000:=fun z hz=>by
  have h1:=Int.mul_nonneg (show 0≤60-d by omega) (show 0≤1000+z by omega)
  have h2:=Int.mul_nonneg (show 0≤60-d by omega) (show 0≤1000-z by omega)
  have h3:=Int.mul_nonneg (show 0≤d by omega) (show 0≤1000+z by omega)
  have h4:=Int.mul_nonneg (show 0≤d by omega) (show 0≤1000-z by omega)
  rw [Int.sub_mul,Int.mul_add,Int.mul_add] at h1
  rw [Int.sub_mul,Int.mul_sub,Int.mul_sub] at h2
  rw [Int.mul_add] at h3
  rw [Int.mul_sub] at h4
  omega
 have hsv:∀ z t:Int,(-60000≤z∧z≤60000)→(0≤t∧t≤100)→-6000000≤z*t∧z*t≤6000000:=fun z t hz ht=>by
  have h1:=Int.mul_nonneg (show 0≤60000+z by omega) ht.1
  have h2:=Int.mul_nonneg (show 0≤60000-z by omega) ht.1
  rw [Int.add_mul] at h1
  rw [Int.sub_mul] at h2
  omega
 unfold triE
 dsimp only
 have m1:=hm ax a1
 have m2:=hm ay a2
 have m3:=hm bx b1
 have m4:=hm byy b2
 have m5:=hm cx c1
 have m6:=hm cy c2
 have du:=hs2 u bu
 have dv:=hs2 v bv'
 have dw:=hs2 w bw
 rw [wrap_in (n:=ax*d) (by omega) (by omega),wrap_in (n:=ay*d) (by omega) (by omega),wrap_in (n:=bx*d) (by omega) (by omega),wrap_in (n:=byy*d) (by omega) (by omega),wrap_in (n:=cx*d) (by omega) (by omega),wrap_in (n:=cy*d) (by omega) (by omega),
  area_ok m3 m4 m5 m6 hx hy,Option.bind_some,area_ok m5 m6 m1 m2 hx hy,Option.bind_some,area_ok m1 m2 m3 m4 hx hy,Option.bind_some,eu,ev,ew]
 have hpos:∀ z:Int,(0≤d*z↔0≤z):=fun z=>by
  constructor
  ·intro h
   by_cases hz:0≤z
   ·exact hz
   ·have:=Int.mul_le_mul_of_nonneg_left (show z≤-1 by omega) (show 0≤d by omega)
    omega
  ·exact fun h=>Int.mul_nonneg (by omega) h
 by_cases hc:0≤u∧0≤v∧0≤w
 ·rw [if_pos hc,leI ((hpos u).2 hc.1),andT,leI ((hpos v).2 hc.2.1),andT,leI ((hpos w).2 hc.2.2),cond_true]
  have s1:=hsv (d*u) av du a3
  have s2:=hsv (d*v) bv dv b3
  have s3:=hsv (d*w) cv dw c3
  have e:d*u*av+d*v*bv+d*w*cv=d*q:=by rw [← eq,Int.mul_add,Int.mul_add,Int.mul_assoc,Int.mul_assoc,Int.mul_assoc]
  rw [wrap_in (n:=d*u*av) (by omega) (by omega),wrap_in (n:=d*v*bv) (by omega) (by omega),wrap_in (n:=d*w*cv) (by omega) (by omega),wrap_in (n:=d*u*av+_) (by omega) (by omega),wrap_in (by omega) (by omega),e,divM_pos (by omega),Int.mul_tdiv_cancel_left _ (by omega)]
  have hq:-18000000≤d*q∧d*q≤18000000:=by omega
  have hq2:-18000000≤q∧q≤18000000:=by
   constructor
   ·by_cases h:0≤q
    ·omega
    ·have:=Int.mul_le_mul_of_nonpos_right hd (show q≤0 by omega)
     omega
   ·by_cases h:q≤0
    ·omega
    ·have:=Int.mul_le_mul_of_nonneg_right hd (show 0≤q by omega)
     omega
  rw [wrap_in (by omega) (by omega)];rfl
 ·rw [if_neg hc]
  have e:PE.andM (PE.andM (leM 0 (d*u)) (leM 0 (d*v))) (leM 0 (d*w))=false:=by
   rw [show leM 0 (d*u)=decide (0≤u) from decide_eq_decide.2 (hpos u),show leM 0 (d*v)=decide (0≤v) from decide_eq_decide.2 (hpos v),show leM 0 (d*w)=decide (0≤w) from decide_eq_decide.2 (hpos w)]
   unfold PE.andM
   rw [← Bool.decide_and,← Bool.decide_and]
   exact decide_eq_false (by omega)
  rw [e,cond_false,wrap_in (by omega) (by omega)]
theorem triE_low {W H:Nat} {v:Nat→Int} (h:OkV W H v) {x y d:Int} (hd:1≤d) (hd2:d≤60) {cx cy:Nat} (hx:cx<W) (hy:cy<H) (x0:0≤x) (x1:x≤W*d) (y0:0≤y) (y1:y≤H*d) :
  triE (nd W v cx cy,nd W v (cx+1) cy,nd W v (cx+1) (cy+1)) x y d ((2*(cy*W+cx):Nat):Int) =
   if x-(cx:Int)*d≤d∧y-(cy:Int)*d≤x-cx*d∧0≤y-(cy:Int)*d then some (.inr (.inr (lowT W v cx cy x y d))) else some (.inl (((2*(cy*W+cx):Nat):Int)+1)):=by
 have w6:=h.w6
 have h6:=h.h6
 have p1:=prod_bd (a:=(W:Int)) (b:=d) (by omega) (show (W:Int)≤6 by omega) (by omega) hd2
 have p2:=prod_bd (a:=(H:Int)) (b:=d) (by omega) (show (H:Int)≤6 by omega) (by omega) hd2
 have p3:=prod_bd (a:=(cx:Int)) (b:=d) (by omega) (show (cx:Int)≤6 by omega) (by omega) hd2
 have p4:=prod_bd (a:=(cy:Int)) (b:=d) (by omega) (show (cy:Int)≤6 by omega) (by omega) hd2
 have hk:cy*W+cx≤48:=by have:cy*W≤6*6:=Nat.mul_le_mul (by omega) w6;omega
 unfold nd
 rw [triE_gen (u:=d-(x-cx*d)) (v:=(x-cx*d)-(y-cy*d)) (w:=y-cy*d) (q:=lowT W v cx cy x y d) hd hd2 (by omega) (by omega) (nv_bd h (by omega) (by omega) (by omega) (by omega)) (by omega) (by omega) (nv_bd h (by omega) (by omega) (by omega) (by omega)) (by omega) (by omega) (nv_bd h (by omega) (by omega) (by omega) (by omega)) (by omega) (by omega) (by omega)
  (by grind) (by grind) (by grind) (by omega) (by omega) (by omega) rfl]
 by_cases hc:x-(cx:Int)*d≤d∧y-(cy:Int)*d≤x-cx*d∧0≤y-(cy:Int)*d
 ·rw [if_pos hc,if_pos (by omega)]
 ·rw [if_neg hc,if_neg (by omega)]
theorem triE_upp {W H:Nat} {v:Nat→Int} (h:OkV W H v) {x y d:Int} (hd:1≤d) (hd2:d≤60) {cx cy:Nat} (hx:cx<W) (hy:cy<H) (x0:0≤x) (x1:x≤W*d) (y0:0≤y) (y1:y≤H*d) :
  triE (nd W v cx cy,nd W v (cx+1) (cy+1),nd W v cx (cy+1)) x y d ((2*(cy*W+cx)+1:Nat):Int) =
   if y-(cy:Int)*d≤d∧x-(cx:Int)*d≤y-cy*d∧0≤x-(cx:Int)*d then some (.inr (.inr (uppT W v cx cy x y d))) else some (.inl (((2*(cy*W+cx)+1:Nat):Int)+1)):=by
 have w6:=h.w6
 have h6:=h.h6
 have p1:=prod_bd (a:=(W:Int)) (b:=d) (by omega) (show (W:Int)≤6 by omega) (by omega) hd2
 have p2:=prod_bd (a:=(H:Int)) (b:=d) (by omega) (show (H:Int)≤6 by omega) (by omega) hd2
 have p3:=prod_bd (a:=(cx:Int)) (b:=d) (by omega) (show (cx:Int)≤6 by omega) (by omega) hd2
 have p4:=prod_bd (a:=(cy:Int)) (b:=d) (by omega) (show (cy:Int)≤6 by omega) (by omega) hd2
 have hk:cy*W+cx≤48:=by have:cy*W≤6*6:=Nat.mul_le_mul (by omega) w6;omega
 unfold nd
 rw [triE_gen (u:=d-(y-cy*d)) (v:=x-cx*d) (w:=(y-cy*d)-(x-cx*d)) (q:=uppT W v cx cy x y d) hd hd2 (by omega) (by omega) (nv_bd h (by omega) (by omega) (by omega) (by omega)) (by omega) (by omega) (nv_bd h (by omega) (by omega) (by omega) (by omega)) (by omega) (by omega) (nv_bd h (by omega) (by omega) (by omega) (by omega)) (by omega) (by omega) (by omega)
  (by grind) (by grind) (by grind) (by omega) (by omega) (by omega) (by unfold uppT;omega)]
 by_cases hc:y-(cy:Int)*d≤d∧x-(cx:Int)*d≤y-cy*d∧0≤x-(cx:Int)*d
 ·rw [if_pos hc,if_pos (by omega)]
 ·rw [if_neg hc,if_neg (by omega)]
theorem val_ok {W H:Nat} {v:Nat→Int} {lo hi:List Int} (h:OkV W H v) {x y d:Int} (hd:1≤d) (hd2:d≤60) (x0:0≤x) (x1:x≤W*d) (y0:0≤y) (y1:y≤H*d) :
  m53 (((W:Int),(H:Int),lo,hi),row (nn W H) v,x,y,d)=some (atv W H v x y d):=by
 have w1:=h.w1
 have w6:=h.w6
 have h1:=h.h1
 have h6:=h.h6
 have hWH:H*W≤36:=Nat.mul_le_mul h6 w6
 have p1:=prod_bd (a:=(W:Int)) (b:=d) (by omega) (show (W:Int)≤6 by omega) (by omega) hd2
 have p2:=prod_bd (a:=(H:Int)) (b:=d) (by omega) (show (H:Int)≤6 by omega) (by omega) hd2
 unfold m53
 dsimp only
 rw [tris_ok w6 h6,Option.bind_some]
 obtain ⟨a0,a1,a2,a3⟩:=cell_bd w1 hd x0 x1
 obtain ⟨b0,b1,b2,b3⟩:=cell_bd h1 hd y0 y1
 obtain ⟨px,hpx⟩:∃ px:Nat,min (x / d) ((W:Int)-1)=px:=⟨(min (x / d) ((W:Int)-1)).toNat,by omega⟩
 obtain ⟨py,hpy⟩:∃ py:Nat,min (y / d) ((H:Int)-1)=py:=⟨(min (y / d) ((H:Int)-1)).toNat,by omega⟩
 rw [hpx] at a0 a1 a2 a3
 rw [hpy] at b0 b1 b2 b3
 have hcell:∀ k,k<2*(H*W)→∃ cx cy:Nat,cx<W∧cy<H∧(k=2*(cy*W+cx)∨k=2*(cy*W+cx)+1):=fun k hk=>by
  have hc:k / 2<H*W:=by omega
  refine ⟨k / 2 % W,k / 2 / W,Nat.mod_lt _ (by omega),(Nat.div_lt_iff_lt_mul (by omega)).2 hc,?_⟩
  have:=Nat.div_add_mod' (k / 2) W
  omega
 obtain ⟨kt,hkt⟩:∃ kt,kt=2*(py*W+px)+if y-(py:Int)*d≤x-px*d then 0 else 1:=⟨_,rfl⟩
 have hpw:py*W+px+1≤H*W:=by
  have:(py+1)*W≤H*W:=Nat.mul_le_mul_right _ (by omega)
  rw [Nat.add_mul,Nat.one_mul] at this
  omega
 have hktn:kt<2*(H*W):=by rw [hkt];split<;>omega
 refine Ans.is (Ans.bind (P:=fun o=>o=.inr (atv W H v x y d)) (Ans.loop (fun k s=>s=(k:Int)∧k≤kt) kt ⟨rfl,Nat.zero_le _⟩ ?_) ?_)
 ·rintro k s hk ⟨rfl,hk2⟩
  have hkn:k<2*(H*W):=by omega
  rw [lenR,ltI (by omega),cond_true,row_idx hkn,Option.bind_some,Option.bind_some,Option.bind_some]
  have hE:∀ t:Tri,triE (triF W v k) x y d (k:Int)=triE (triF W v k) x y d (k:Int):=fun _=>rfl
  show Ans (triE (triF W v k) x y d (k:Int)) _
  obtain ⟨cx,cy,hcx,hcy,hkk⟩:=hcell k hkn
  rcases hkk with e | e
  ·rw [e,triF_low v hcx,triE_low h hd hd2 hcx hcy x0 x1 y0 y1]
   by_cases hin:x-(cx:Int)*d≤d∧y-(cy:Int)*d≤x-cx*d∧0≤y-(cy:Int)*d
   ·rw [if_pos hin]
    refine Ans.of rfl ?_
    show (Sum.inr _:Unit⊕Int)=.inr (atv W H v x y d)
    rw [atv_low w1 h1 hd x0 x1 y0 y1 (by omega) (by omega) hin.1 hin.2.1 hin.2.2]
   ·rw [if_neg hin]
    refine Ans.of rfl ?_
    have hne:k≠kt:=fun hh=>by
     rw [hkt,e] at hh
     split at hh
     ·rename_i hle
      have e1:cy*W+cx=py*W+px:=by omega
      have e2:cx=px:=by
       have:=congrArg (· % W) e1
       simpa [Nat.mul_comm _ W,Nat.mul_add_mod,Nat.mod_eq_of_lt hcx,Nat.mod_eq_of_lt (show px<W by omega)] using this
      subst e2
      have e3:cy=py:=Nat.eq_of_mul_eq_mul_right (show 0<W by omega) (by omega)
      subst e3
      exact hin ⟨a3,hle,by omega⟩
     ·omega
    rw [← e]
    exact show k<kt∧(k:Int)+1=((k+1:Nat):Int)∧k+1≤kt from ⟨by omega,by omega,by omega⟩
  ·rw [e,triF_upp v hcx,triE_upp h hd hd2 hcx hcy x0 x1 y0 y1]
   by_cases hin:y-(cy:Int)*d≤d∧x-(cx:Int)*d≤y-cy*d∧0≤x-(cx:Int)*d
   ·rw [if_pos hin]
    refine Ans.of rfl ?_
    show (Sum.inr _:Unit⊕Int)=.inr (atv W H v x y d)
    rw [atv_upp w1 h1 hd x0 x1 y0 y1 (by omega) (by omega) hin.1 hin.2.1 hin.2.2]
   ·rw [if_neg hin]
    refine Ans.of rfl ?_
    have hne:k≠kt:=fun hh=>by
     rw [hkt,e] at hh
     split at hh
     ·omega
     ·rename_i hle
      have e1:cy*W+cx=py*W+px:=by omega
      have e2:cx=px:=by
       have:=congrArg (· % W) e1
       simpa [Nat.mul_comm _ W,Nat.mul_add_mod,Nat.mod_eq_of_lt hcx,Nat.mod_eq_of_lt (show px<W by omega)] using this
      subst e2
      have e3:cy=py:=Nat.eq_of_mul_eq_mul_right (show 0<W by omega) (by omega)
      subst e3
      exact hin ⟨b3,by omega,by omega⟩
    rw [← e]
    exact show k<kt∧(k:Int)+1=((k+1:Nat):Int)∧k+1≤kt from ⟨by omega,by omega,by omega⟩
 ·rintro o rfl
  exact .of rfl rfl
end Go.Proofs.YtdaaoecjdhipjaaGreatDoor
namespace Go.Proofs.YtdaaoecjdhipjaaGreatDoor
open Go Go.Abs Go.PE
open Go.IntKind (wrap)
theorem at2_ok {W H:Nat} {lo hi:Nat→Int} (h:OkF W H lo hi) (x y d:Int):m21 (fd W H lo hi,x,y,d)=some (atR W H lo hi x y d):=by
 have w6:=h.w6
 have h6:=h.h6
 unfold m21
 have v1:=valid2_ok h
 unfold fd at v1 ⊢
 dsimp only
 rw [v1,Option.bind_some,notT,orF]
 unfold atR
 by_cases hd:1≤d∧d≤60
 case neg =>
  rw [if_neg (by omega)]
  have e:PE.orM (ltM d 1) (ltM 60 d)=true:=by
   by_cases h1:d<1
   ·rw [ltI h1];rfl
   ·rw [geI (by omega),orF,ltI (by omega)]
  rw [e];rfl
 rw [geI (by omega),orF,geI (by omega),orF,wd_bd w6 hd.1 hd.2,wd_bd h6 hd.1 hd.2]
 by_cases hx:0≤x∧x≤(W:Int)*d
 case neg =>
  rw [if_neg (fun h=>hx ⟨h.2.2.1,h.2.2.2.1⟩)]
  have e:PE.orM (ltM x 0) (ltM ((W:Int)*d) x)=true:=by
   by_cases h1:x<0
   ·rw [ltI h1];rfl
   ·rw [geI (by omega),orF,ltI (by omega)]
  rw [e];rfl
 rw [geI (by omega),orF,geI (by omega),orF]
 by_cases hy:0≤y∧y≤(H:Int)*d
 case neg =>
  rw [if_neg (fun h=>hy h.2.2.2.2)]
  have e:PE.orM (ltM y 0) (ltM ((H:Int)*d) y)=true:=by
   by_cases h1:y<0
   ·rw [ltI h1];rfl
   ·rw [geI (by omega),orF,ltI (by omega)]
  rw [e];rfl
 rw [geI (by omega),orF,geI (by omega),cond_false,if_pos ⟨hd.1,hd.2,hx.1,hx.2,hy.1,hy.2⟩,val_ok h.okLo hd.1 hd.2 hx.1 hx.2 hy.1 hy.2,Option.bind_some,val_ok h.okHi hd.1 hd.2 hx.1 hx.2 hy.1 hy.2,Option.bind_some]
def tSum (W:Nat) (v:Nat→Int) (k:Nat):Int:=(triF W v k).1.2.2+(triF W v k).2.1.2.2+(triF W v k).2.2.2.2
def sT (W:Nat) (v:Nat→Int):Nat→Int
 | 0=>0
 | k+1=>sT W v k+tSum W v k
theorem tSum_bd {W H:Nat} {v:Nat→Int} (h:OkV W H v) {k:Nat} (hk:k<2*(H*W)):0≤(triF W v k).1.2.2∧(triF W v k).1.2.2≤100∧0≤(triF W v k).2.1.2.2∧(triF W v k).2.1.2.2≤100∧0≤(triF W v k).2.2.2.2∧(triF W v k).2.2.2.2≤100:=by
 have w1:=h.w1
 have hc:k / 2<H*W:=by omega
 have hx:k / 2 % W<W:=Nat.mod_lt _ (by omega)
 have hy:k / 2 / W<H:=(Nat.div_lt_iff_lt_mul (by omega)).2 hc
 unfold triF
 dsimp only
 generalize k / 2 % W=p at *
 generalize k / 2 / W=q at *
 have n00:=nv_bd h (cx:=(p:Int)) (cy:=(q:Int)) (by omega) (by omega) (by omega) (by omega)
 have n10:=nv_bd h (cx:=(p:Int)+1) (cy:=(q:Int)) (by omega) (by omega) (by omega) (by omega)
 have n11:=nv_bd h (cx:=(p:Int)+1) (cy:=(q:Int)+1) (by omega) (by omega) (by omega) (by omega)
 have n01:=nv_bd h (cx:=(p:Int)) (cy:=(q:Int)+1) (by omega) (by omega) (by omega) (by omega)
 split
 ·exact ⟨n00.1,n00.2,n10.1,n10.2,n11.1,n11.2⟩
 ·exact ⟨n00.1,n00.2,n11.1,n11.2,n01.1,n01.2⟩
theorem sT_bd {W H:Nat} {v:Nat→Int} (h:OkV W H v):∀ k,k≤2*(H*W)→0≤sT W v k∧sT W v k≤300*k
 | 0,_=>by show (0:Int)≤0∧(0:Int)≤300*((0:Nat):Int);omega
 | k+1,hk=>by
  have h1:=sT_bd h k (by omega)
  have h2:=tSum_bd h (k:=k) (by omega)
  show 0≤sT W v k+tSum W v k∧sT W v k+tSum W v k≤300*((k+1:Nat):Int)
  unfold tSum
  omega
theorem int2_ok {W H:Nat} {v:Nat→Int} {lo hi:List Int} (h:OkV W H v):m50 (((W:Int),(H:Int),lo,hi),row (nn W H) v)=some (sT W v (2*(H*W))):=by
 have hWH:H*W≤36:=Nat.mul_le_mul h.h6 h.w6
 unfold m50
 dsimp only
 rw [tris_ok h.w6 h.h6,Option.bind_some]
 refine bind_of (loopM_fn (fun k=>(sT W v k,(k:Int))) (2*(H*W)) (r:=sT W v (2*(H*W))) (fun k hk=>?_) ?_) rfl
 ·have h1:=sT_bd h k (by omega)
  have h2:=tSum_bd h hk
  dsimp only
  rw [lenR,ltI (by omega),cond_true,row_idx hk,Option.bind_some,Option.bind_some,Option.bind_some,wrap_in (n:=(k:Int)+1) (by omega) (by omega),wrap_in (n:=sT W v k+_) (by omega) (by omega),wrap_in (n:=sT W v k+_+_) (by omega) (by omega),wrap_in (by omega) (by omega)]
  have e:sT W v (k+1)=sT W v k+(triF W v k).1.2.2+(triF W v k).2.1.2.2+(triF W v k).2.2.2.2:=by
   show sT W v k+tSum W v k=_
   unfold tSum;omega
  rw [e];rfl
 ·dsimp only
  rw [lenR,geI (by omega),cond_false]
noncomputable def itE (W H:Int) (L:List Int):Option Int :=
 (loopM (fun (s:Int×Int)=>bif ltM s.1 H then (loopM
 (fun (s_1:Int×Int)=>bif ltM s_1.1 W then ((idxM L (wrap IntKind.i64 (wrap IntKind.i64 (s.1*wrap IntKind.i64 (W+1))+s_1.1))).bind fun r
 => some r).bind fun (ov:Int)=>((idxM L (wrap IntKind.i64 (wrap IntKind.i64 (s.1*wrap IntKind.i64 (W+1))+wrap IntKind.i64 (s_1.1+1)))).bind
 fun r=>some r).bind fun (ov_1:Int)=>((idxM L (wrap IntKind.i64 (wrap IntKind.i64 (wrap IntKind.i64 (s.1+1)*wrap IntKind.i64 (W+1))+wrap
 IntKind.i64 (s_1.1+1)))).bind fun r=>some r).bind fun (ov_2:Int)=>((idxM L (wrap IntKind.i64 (wrap IntKind.i64 (s.1*wrap IntKind.i64 (W+1)) +
 s_1.1))).bind fun r=>some r).bind fun (ov_3:Int)=>((idxM L (wrap IntKind.i64 (wrap IntKind.i64 (wrap IntKind.i64 (s.1+1)*wrap IntKind.i64 (W +
 1))+wrap IntKind.i64 (s_1.1+1)))).bind fun r=>some r).bind fun (ov_4:Int)=>((idxM L (wrap IntKind.i64 (wrap IntKind.i64 (wrap IntKind.i64 (s.1 +
 1)*wrap IntKind.i64 (W+1))+s_1.1))).bind fun r=>some r).bind fun (ov_5:Int)=>some (Sum.inl (wrap IntKind.i64 (s_1.1 +
 1),wrap IntKind.i64 (wrap IntKind.i64 (s_1.2+wrap IntKind.i64 (wrap IntKind.i64 (ov+ov_1)+ov_2))+wrap IntKind.i64 (wrap IntKind.i64 (ov_3+ov_4) +
 ov_5)))) else some (Sum.inr s_1.2)) (0,s.2)).bind fun o=>some (Sum.inl (wrap IntKind.i64 (s.1+1),o)) else some (Sum.inr s.2)) (0,0)).bind fun o=>some o
theorem itE_ok {W H:Nat} {v:Nat→Int} (h:OkV W H v):itE W H (row (nn W H) v)=some (sT W v (2*(H*W))):=by
 have w6:=h.w6
 have h6:=h.h6
 have hWH:H*W≤36:=Nat.mul_le_mul h6 w6
 unfold itE
 refine bind_of (x:=sT W v (2*(H*W))) ?_ rfl
 have e0:(0:Int)=sT W v (2*(0*W)):=by rw [Nat.zero_mul];rfl
 refine Eq.trans (congrArg (fun l=>loopM _ ((0:Int),l)) e0) (count_loop (fun cy=>sT W v (2*(cy*W))) H (fun cy hy=>?_) ?_)
 ·dsimp only
  rw [ltI (by omega),cond_true,wrap_in (n:=(cy:Int)+1) (by omega) (by omega)]
  refine bind_of (x:=sT W v (2*((cy+1)*W))) ?_ rfl
  refine count_loop (fun cx=>sT W v (2*(cy*W+cx))) W (fun cx hx=>?_) ?_
  ·have hb:cy*W+cx+1≤H*W:=by
    have:(cy+1)*W≤H*W:=Nat.mul_le_mul_right _ hy
    rw [Nat.add_mul,Nat.one_mul] at this
    omega
   have h1:=sT_bd h (2*(cy*W+cx)) (by omega)
   have n00:=nv_bd h (cx:=(cx:Int)) (cy:=(cy:Int)) (by omega) (by omega) (by omega) (by omega)
   have n10:=nv_bd h (cx:=(cx:Int)+1) (cy:=(cy:Int)) (by omega) (by omega) (by omega) (by omega)
   have n11:=nv_bd h (cx:=(cx:Int)+1) (cy:=(cy:Int)+1) (by omega) (by omega) (by omega) (by omega)
   have n01:=nv_bd h (cx:=(cx:Int)) (cy:=(cy:Int)+1) (by omega) (by omega) (by omega) (by omega)
   dsimp only
   rw [ltI (by omega),cond_true,wrap_in (n:=(cx:Int)+1) (by omega) (by omega),node_ok w6 h6 (cx:=(cx:Int)) (cy:=(cy:Int)) (by omega) (by omega) (by omega) (by omega),node_ok w6 h6 (cx:=(cx:Int)+1) (cy:=(cy:Int)) (by omega) (by omega) (by omega) (by omega),node_ok w6 h6 (cx:=(cx:Int)+1) (cy:=(cy:Int)+1) (by omega) (by omega) (by omega) (by omega),node_ok w6 h6 (cx:=(cx:Int)) (cy:=(cy:Int)+1) (by omega) (by omega) (by omega) (by omega)]
   simp only [Option.bind_some]
   have e:sT W v (2*(cy*W+(cx+1)))=sT W v (2*(cy*W+cx))+(nv W v cx cy+nv W v (cx+1) cy+nv W v (cx+1) (cy+1))+(nv W v cx cy+nv W v (cx+1) (cy+1)+nv W v cx (cy+1)):=by
    rw [show 2*(cy*W+(cx+1))=2*(cy*W+cx)+1+1 by omega]
    show sT W v (2*(cy*W+cx))+tSum W v (2*(cy*W+cx))+tSum W v (2*(cy*W+cx)+1)=_
    unfold tSum
    rw [triF_low v hx,triF_upp v hx];rfl
   rw [e,wrap_in (n:=nv W v cx cy+nv W v (cx+1) cy) (by omega) (by omega),wrap_in (n:=nv W v cx cy+nv W v (cx+1) cy+_) (by omega) (by omega),wrap_in (n:=nv W v cx cy+nv W v (cx+1) (cy+1)) (by omega) (by omega),wrap_in (n:=nv W v cx cy+nv W v (cx+1) (cy+1)+_) (by omega) (by omega),wrap_in (n:=sT W v _+_) (by omega) (by omega),wrap_in (by omega) (by omega)]
  ·dsimp only
   rw [geI (by omega),cond_false,Nat.add_mul,Nat.one_mul]
 ·dsimp only
  rw [geI (by omega),cond_false]
theorem integral_ok {W H:Nat} {lo hi:Nat→Int} (h:OkF W H lo hi):m15 (fd W H lo hi)=some (sT W lo (2*(H*W)),sT W hi (2*(H*W))):=by
 unfold m15
 have v1:=valid_ok h
 unfold fd at v1 ⊢
 dsimp only
 rw [v1,Option.bind_some,notT,cond_false]
 refine bind_of (itE_ok h.okLo) ?_
 refine bind_of (itE_ok h.okHi) rfl
theorem integral2_ok {W H:Nat} {lo hi:Nat→Int} (h:OkF W H lo hi):m16 (fd W H lo hi)=some (sT W lo (2*(H*W)),sT W hi (2*(H*W))):=by
 unfold m16
 have v1:=valid2_ok h
 unfold fd at v1 ⊢
 dsimp only
 rw [v1,Option.bind_some,notT,cond_false,int2_ok h.okLo,Option.bind_some,int2_ok h.okHi,Option.bind_some]
theorem changed2_ok {W H:Nat} {lo hi lo' hi':Nat→Int} (h:OkF W H lo hi) (h':OkF W H lo' hi'):m30 (fd W H lo hi,fd W H lo' hi')=some (row (nn W H) (chF lo hi lo' hi'),0):=by
 have h49:=nn_bd h.w6 h.h6
 unfold m30
 have v1:=valid2_ok h
 have v2:=valid2_ok h'
 unfold fd at v1 v2 ⊢
 dsimp only
 rw [v1,Option.bind_some,notT,notF,cond_true,v2,Option.bind_some,notT,orF,orF,eqI rfl,notT,orF,eqI rfl,notT,cond_false]
 refine bind_of (x:=row (nn W H) (chF lo hi lo' hi')) ?_ rfl
 refine count_loop (fun k=>row k (chF lo hi lo' hi')) (nn W H) (fun k hk=>?_) ?_
 ·have a:=h.lh k hk
  have b:=h'.lh k hk
  have ap:∀ y,y=chF lo hi lo' hi' k→((appM (nat_lit 8) (row k (chF lo hi lo' hi')) [y]).bind fun r=>some r)=some (row (k+1) (chF lo hi lo' hi')):=fun y hy=>by
   rw [app_rowOf (y:=y) (g:=chF lo hi lo' hi') hy (by show (k+1)*8≤_;omega)];rfl
  dsimp only
  rw [lenR,ltI (by omega),cond_true,wrap_in (n:=(k:Int)+1) (by omega) (by omega)]
  refine bind_of (x:=row (k+1) (chF lo hi lo' hi')) ?_ rfl
  rw [row_idx hk,Option.bind_some,row_idx hk,Option.bind_some]
  simp only [row_idx hk,bif_some,Option.bind_some]
  by_cases h1:hi k<lo' k
  ·rw [ltI h1,orT,cond_true]
   exact ap 2 (by unfold chF;rw [if_pos (by omega)])
  ·rw [geI (by omega),orF,notF,cond_true,cond_true]
   by_cases h2:hi' k<lo k
   ·rw [ltI h2,cond_true]
    exact ap 2 (by unfold chF;rw [if_pos (by omega)])
   ·rw [geI (by omega),cond_false]
    by_cases h3:lo k=hi k∧lo' k=hi' k
    ·rw [eqI h3.1,andT,cond_true,cond_true,eqI h3.2,cond_true]
     exact ap 0 (by unfold chF;rw [if_neg (by omega),if_neg (by omega)])
    ·have e:PE.andM (eqM (lo k) (hi k)) (eqM (bif eqM (lo k) (hi k) then lo' k else 0) (bif eqM (lo k) (hi k) then hi' k else 0))=false:=by
      by_cases h4:lo k=hi k
      ·rw [eqI h4,andT,cond_true,cond_true,neI (fun h5=>h3 ⟨h4,h5⟩)]
      ·rw [neI h4,andF]
     rw [e,cond_false]
     exact ap 1 (by unfold chF;rw [if_neg (by omega),if_pos (by omega)])
 ·dsimp only
  rw [lenR,geI (by omega),cond_false]
end Go.Proofs.YtdaaoecjdhipjaaGreatDoor
namespace Go.Proofs.YtdaaoecjdhipjaaGreatDoor
open Go Go.Abs Go.PE
open Go.IntKind (wrap)
def Sam (a b:Option (Fld×Int)):Prop:=∃ r,a=some r∧b=some r∧RngF r.1
theorem rng_fd {W H:Nat} {lo hi:Nat→Int} (w6:W≤12) (h6:H≤12):RngF (fd W H lo hi):=by
 have:nn W H≤169:=Nat.mul_le_mul (show W+1≤13 by omega) (show H+1≤13 by omega)
 unfold RngF fd
 dsimp only
 rw [row_length,row_length]
 show nn W H≤9223372036854775807∧nn W H≤9223372036854775807
 omega
theorem rng_zero:RngF (0,0,[],[]):=⟨Nat.zero_le _,Nat.zero_le _⟩
theorem same_ok {t:Fld} (h:RngF t):m24 (t,t)=some true:=by
 obtain ⟨W,H,Lo,Hi⟩:=t
 unfold m24
 dsimp only
 rw [eqI rfl,andT,eqI rfl,cond_true,ints_ok Lo h.1,Option.bind_some,andT,cond_true,ints_ok Hi h.2];rfl
theorem sam_made {t:Fld} (h:RngF t) {f g:Fld×Int→Option (Fld×Int)} (hf:∀ r,f r=some r) (hg:∀ r,g r=some r):Sam ((m55 t).bind f) ((m56 t).bind g):=by
 obtain ⟨r,e1,e2,e3⟩:=made_same t h
 refine ⟨r,by rw [e1];exact hf r,by rw [e2];exact hg r,?_⟩
 rcases e3 with rfl | rfl
 ·exact h
 ·exact rng_zero
theorem clone_ok {n:Nat} {f:Nat→Int} (h0:0<n) (h:n≤1000):mo54 (row n f)=some (row n f):=by
 unfold mo54
 have e:nilM (row n f) (some []) ((appM (nat_lit 8) [] (row n f)).bind fun r=>some r)=(appM (nat_lit 8) [] (row n f)).bind fun r=>some r:=by
  obtain ⟨m,rfl⟩:∃ m,n=m+1:=⟨n-1,by omega⟩
  cases hr:row (m+1) f with
  | nil=>have:=congrArg List.length hr;rw [row_length] at this;cases this
  | cons a l=>rfl
 rw [e,appM_of (by rw [row_length];show (0+n)*8≤_;omega)];rfl
theorem row_next {n k:Nat} {f g:Nat→Int} (hk:k<n):(row n fun a=>if a=k then g k else if a<k then g a else f a)=row n fun a=>if a<k+1 then g a else f a:=row_congr fun a ha=>by
 by_cases h1:a=k
 ·subst h1;rw [if_pos rfl,if_pos (by omega)]
 ·rw [if_neg h1]
  by_cases h2:a<k
  ·rw [if_pos h2,if_pos (by omega)]
  ·rw [if_neg h2,if_neg (by omega)]
theorem scale_ok {t:Fld} (hr:RngF t) (k:Int):Sam (m22 (t,k)) (m23 (t,k)):=by
 rcases valid_cases t hr with ⟨W,H,lo,hi,hF,rfl⟩ | ⟨e1,e2⟩
 ·have v1:=valid_ok hF
  have v2:=valid2_ok hF
  have h49:=nn_bd hF.w6 hF.h6
  have hpos:=nn_pos W H
  unfold m22 m23 fd at *
  dsimp only
  rw [v1,v2,Option.bind_some,Option.bind_some,notT,notF,cond_true,within_ok,Option.bind_some,orF,orF]
  by_cases hk:0≤k∧k≤100
  case neg =>
   have e:PE.orM (ltM k 0) (ltM 100 k)=true:=by
    by_cases h1:k<0
    ·rw [ltI h1];rfl
    ·rw [geI (by omega),orF,ltI (by omega)]
   rw [decide_eq_false hk,notF,e]
   exact ⟨_,rfl,rfl,rng_zero⟩
  rw [decide_eq_true hk,notT,cond_false,geI (by omega),orF,geI (by omega),cond_false,clone_ok hpos (by omega),Option.bind_some,clone_ok hpos (by omega),Option.bind_some]
  have lp:∀ {f g:Nat→Int},(fun a=>if a<0 then g a else f a:Nat→Int)=f:=fun {f g}=>by funext a;rfl
  have hb:∀ i,i<nn W H→(0≤lo i*k∧lo i*k≤10000)∧0≤hi i*k∧hi i*k≤10000:=fun i hi'=>by
   have a:=hF.l0 i hi'
   have b:=hF.lh i hi'
   have c:=hF.h9 i hi'
   have p1:=prod_bd a (show lo i≤100 by omega) hk.1 hk.2
   have p2:=prod_bd (show 0≤hi i by omega) c hk.1 hk.2
   omega
  have E1:loopM (fun (s:Int×List Int×List Int)=>bif ltM s.1 (lenM (row (nn W H) lo)) then (chkM s.1 (lenM s.2.1)).bind fun r_4=>(idxM s.2.1 s.1).bind fun r_5=>(chkM s.1 (lenM s.2.1)).bind fun r_6
    => (setM s.2.1 s.1 fun (x_1:Int)=>some (wrap IntKind.i64 (r_5*k))).bind fun r_7=>(chkM s.1 (lenM s.2.2)).bind fun r_8=>(idxM s.2.2 s.1).bind fun
    r_9=>(chkM s.1 (lenM s.2.2)).bind fun r_10=>(setM s.2.2 s.1 fun (x_1:Int)=>some (wrap IntKind.i64 (r_9*k))).bind fun r=>some (Sum.inl (wrap
    IntKind.i64 (s.1+1),r_7,r)) else some (Sum.inr (s.2.1,s.2.2))) (0,row (nn W H) lo,row (nn W H) hi)=some (row (nn W H) (fun i=>lo i*k),row (nn W H) (fun i=>hi i*k)):=by
   have e0:(row (nn W H) lo,row (nn W H) hi)=(row (nn W H) (fun a=>if a<0 then lo a*k else lo a),row (nn W H) fun a=>if a<0 then hi a*k else hi a):=rfl
   rw [e0]
   refine count_loop (fun j=>(row (nn W H) (fun a=>if a<j then lo a*k else lo a),row (nn W H) fun a=>if a<j then hi a*k else hi a)) (nn W H) (fun j hj=>?_) ?_
   ·have hb:=hb j hj
    dsimp only
    rw [lenR,ltI (by omega),cond_true,lenR,chkM_of (by omega) (by omega),Option.bind_some,row_idx hj,Option.bind_some,Option.bind_some,if_neg (Nat.lt_irrefl j),wrap_in (n:=lo j*k) (by omega) (by omega),set_rowA hj,Option.bind_some,lenR,chkM_of (by omega) (by omega),Option.bind_some,row_idx hj,Option.bind_some,Option.bind_some,if_neg (Nat.lt_irrefl j),wrap_in (n:=hi j*k) (by omega) (by omega),set_rowA hj,Option.bind_some,wrap_in (by omega) (by omega),
     row_next (f:=lo) (g:=fun a=>lo a*k) hj,row_next (f:=hi) (g:=fun a=>hi a*k) hj]
   ·dsimp only
    rw [lenR,geI (by omega),cond_false,row_congr (g':=fun i=>lo i*k) fun a ha=>if_pos ha,row_congr (g':=fun i=>hi i*k) fun a ha=>if_pos ha]
  have E2:loopM (fun (s:Int×Int×Int×List Int×List Int)=>bif ltM s.1 (lenM (row (nn W H) lo)) then (idxM (row (nn W H) lo) s.1).bind fun r_1=>(appM (nat_lit 8)
    s.2.2.2.1 [wrap IntKind.i64 (k*r_1)]).bind fun r_2=>(idxM (row (nn W H) hi) s.1).bind fun r_3=>(appM (nat_lit 8) s.2.2.2.2 [wrap IntKind.i64 (k *
    r_3)]).bind fun r=>some (Sum.inl (wrap IntKind.i64 (s.1+1),s.2.1,s.2.2.1,r_2,r)) else some (Sum.inr (s.2.1,s.2.2.1,s.2.2.2.1,s.2.2.2.2))) (0,
    (W:Int),(H:Int),[],[])=some ((W:Int),(H:Int),row (nn W H) (fun i=>lo i*k),row (nn W H) (fun i=>hi i*k)):=by
   refine count_loop (fun j=>((W:Int),(H:Int),row j (fun i=>lo i*k),row j (fun i=>hi i*k))) (nn W H) (fun j hj=>?_) ?_
   ·have hb:=hb j hj
    dsimp only
    rw [lenR,ltI (by omega),cond_true,row_idx hj,Option.bind_some,Int.mul_comm k (lo j),wrap_in (n:=lo j*k) (by omega) (by omega),app_rowOf (y:=lo j*k) (g:=fun i=>lo i*k) rfl (by show (j+1)*8≤_;omega),Option.bind_some,row_idx hj,Option.bind_some,Int.mul_comm k (hi j),wrap_in (n:=hi j*k) (by omega) (by omega),app_rowOf (y:=hi j*k) (g:=fun i=>hi i*k) rfl (by show (j+1)*8≤_;omega),Option.bind_some,wrap_in (by omega) (by omega)]
   ·dsimp only
    rw [lenR,geI (by omega),cond_false]
  rw [E1,Option.bind_some,E2,Option.bind_some]
  exact sam_made (rng_fd (by have:=hF.w6;omega) (by have:=hF.h6;omega)) (fun r=>rfl) (fun r=>rfl)
 ·obtain ⟨W,H,Lo,Hi⟩:=t
  unfold m22 m23
  dsimp only
  rw [e1,e2]
  exact ⟨_,rfl,rfl,rng_zero⟩
theorem add_ok {t:Fld} (hr:RngF t) {W' H':Nat} {lo' hi':Nat→Int} (hG:OkF W' H' lo' hi'):Sam (m27 (t,fd W' H' lo' hi')) (m28 (t,fd W' H' lo' hi')):=by
 have g1:=valid_ok hG
 have g2:=valid2_ok hG
 rcases valid_cases t hr with ⟨W,H,lo,hi,hF,rfl⟩ | ⟨e1,e2⟩
 ·have v1:=valid_ok hF
  have v2:=valid2_ok hF
  have h49:=nn_bd hF.w6 hF.h6
  have hpos:=nn_pos W H
  unfold m27 m28 fd at *
  dsimp only
  rw [v1,v2,Option.bind_some,Option.bind_some,notT,notF,cond_true,cond_true,g1,g2,Option.bind_some,Option.bind_some,notT,orF,orF]
  by_cases hW:W=W'
  case neg =>
   rw [neI (a:=(W:Int)) (b:=(W':Int)) (by omega),notF]
   exact ⟨_,rfl,rfl,rng_zero⟩
  by_cases hH:H=H'
  case neg =>
   rw [eqI (a:=(W:Int)) (b:=(W':Int)) (by omega),notT,orF,neI (a:=(H:Int)) (b:=(H':Int)) (by omega),notF]
   exact ⟨_,rfl,rfl,rng_zero⟩
  subst hW hH
  rw [eqI rfl,notT,orF,eqI rfl,notT,cond_false,cond_false,clone_ok hpos (by omega),Option.bind_some,clone_ok hpos (by omega),Option.bind_some]
  have hb:∀ i,i<nn W H→(0≤lo i+lo' i∧lo i+lo' i≤200)∧0≤hi i+hi' i∧hi i+hi' i≤200:=fun i hi9=>by
   have a:=hF.l0 i hi9
   have b:=hF.lh i hi9
   have c:=hF.h9 i hi9
   have a':=hG.l0 i hi9
   have b':=hG.lh i hi9
   have c':=hG.h9 i hi9
   omega
  have E1:loopM (fun (s:Int×List Int×List Int)=>bif ltM s.1 (lenM (row (nn W H) lo))
    then (chkM s.1 (lenM s.2.1)).bind fun r_4=>(idxM s.2.1 s.1).bind fun r_5=>(idxM (row (nn W H) lo') s.1).bind fun r_6=>(chkM s.1 (lenM s.2.1)).bind fun r_7 =>
    (setM s.2.1 s.1 fun (x:Int)=>some (wrap IntKind.i64 (r_5+r_6))).bind fun r_8=>(chkM s.1 (lenM s.2.2)).bind fun r_9=>(idxM s.2.2 s.1).bind fun r_10
    => (idxM (row (nn W H) hi') s.1).bind fun r_11=>(chkM s.1 (lenM s.2.2)).bind fun r_12=>(setM s.2.2 s.1 fun (x:Int)=>some (wrap IntKind.i64 (r_10+r_11))).bind
    fun r=>some (Sum.inl (wrap IntKind.i64 (s.1+1),r_8,r)) else some (Sum.inr (s.2.1,s.2.2))) (0,row (nn W H) lo,row (nn W H) hi)=some (row (nn W H) (fun i=>lo i+lo' i),row (nn W H) (fun i=>hi i+hi' i)):=by
   have e0:(row (nn W H) lo,row (nn W H) hi)=(row (nn W H) (fun a=>if a<0 then lo a+lo' a else lo a),row (nn W H) fun a=>if a<0 then hi a+hi' a else hi a):=rfl
   rw [e0]
   refine count_loop (fun j=>(row (nn W H) (fun a=>if a<j then lo a+lo' a else lo a),row (nn W H) fun a=>if a<j then hi a+hi' a else hi a)) (nn W H) (fun j hj=>?_) ?_
   ·have hb:=hb j hj
    dsimp only
    rw [lenR,ltI (by omega),cond_true,lenR,chkM_of (by omega) (by omega),Option.bind_some,row_idx hj,Option.bind_some,row_idx hj,Option.bind_some,Option.bind_some,if_neg (Nat.lt_irrefl j),wrap_in (n:=lo j+lo' j) (by omega) (by omega),set_rowA hj,Option.bind_some,lenR,chkM_of (by omega) (by omega),Option.bind_some,row_idx hj,Option.bind_some,row_idx hj,Option.bind_some,Option.bind_some,if_neg (Nat.lt_irrefl j),wrap_in (n:=hi j+hi' j) (by omega) (by omega),set_rowA hj,Option.bind_some,wrap_in (by omega) (by omega),
     row_next (f:=lo) (g:=fun a=>lo a+lo' a) hj,row_next (f:=hi) (g:=fun a=>hi a+hi' a) hj]
   ·dsimp only
    rw [lenR,geI (by omega),cond_false,row_congr (g':=fun i=>lo i+lo' i) fun a ha=>if_pos ha,row_congr (g':=fun i=>hi i+hi' i) fun a ha=>if_pos ha]
  have E2:loopM (fun (s:Int×Int×Int×List Int×List Int)=>bif ltM s.1 (lenM (row (nn W H) lo)) then (idxM (row (nn W H) lo) s.1).bind fun r_2=>(idxM
    (row (nn W H) lo') s.1).bind fun r_3=>(appM (nat_lit 8) s.2.2.2.1 [wrap IntKind.i64 (r_2+r_3)]).bind fun r_4=>(idxM (row (nn W H) hi) s.1).bind fun r_5=>(idxM
    (row (nn W H) hi') s.1).bind fun r_6=>(appM (nat_lit 8) s.2.2.2.2 [wrap IntKind.i64 (r_5+r_6)]).bind fun r=>some (Sum.inl (wrap IntKind.i64 (s.1+1),s.2.1,
    s.2.2.1,r_4,r)) else some (Sum.inr (s.2.1,s.2.2.1,s.2.2.2.1,s.2.2.2.2))) (0,(W:Int),(H:Int),[],[])=some ((W:Int),(H:Int),row (nn W H) (fun i=>lo i+lo' i),row (nn W H) (fun i=>hi i+hi' i)):=by
   refine count_loop (fun j=>((W:Int),(H:Int),row j (fun i=>lo i+lo' i),row j (fun i=>hi i+hi' i))) (nn W H) (fun j hj=>?_) ?_
   ·have hb:=hb j hj
    dsimp only
    rw [lenR,ltI (by omega),cond_true,row_idx hj,Option.bind_some,row_idx hj,Option.bind_some,wrap_in (n:=lo j+lo' j) (by omega) (by omega),app_rowOf (y:=lo j+lo' j) (g:=fun i=>lo i+lo' i) rfl (by show (j+1)*8≤_;omega),Option.bind_some,row_idx hj,Option.bind_some,row_idx hj,Option.bind_some,wrap_in (n:=hi j+hi' j) (by omega) (by omega),app_rowOf (y:=hi j+hi' j) (g:=fun i=>hi i+hi' i) rfl (by show (j+1)*8≤_;omega),Option.bind_some,wrap_in (by omega) (by omega)]
   ·dsimp only
    rw [lenR,geI (by omega),cond_false]
  rw [E1,Option.bind_some,E2,Option.bind_some]
  exact sam_made (rng_fd (by have:=hF.w6;omega) (by have:=hF.h6;omega)) (fun r=>rfl) (fun r=>rfl)
 ·obtain ⟨W,H,Lo,Hi⟩:=t
  unfold m27 m28
  dsimp only
  rw [e1,e2]
  exact ⟨_,rfl,rfl,rng_zero⟩
end Go.Proofs.YtdaaoecjdhipjaaGreatDoor
namespace Go.Proofs.YtdaaoecjdhipjaaGreatDoor
open Go Go.Abs Go.PE
open Go.IntKind (wrap)
def rfv (W:Nat) (v:Nat→Int) (x y:Nat):Int:=nv W v ((x / 2:Nat):Int) ((y / 2:Nat):Int)+nv W v (((x+1) / 2:Nat):Int) (((y+1) / 2:Nat):Int)
theorem half_cases {W x:Nat} (hW:1≤W) (hx:x≤2*W):∃ p:Int,min ((x:Int) / 2) ((W:Int)-1)=p∧((((x / 2:Nat):Int)=p∧(((x+1) / 2:Nat):Int)=p∧(x:Int)-p*2=0)∨(((x / 2:Nat):Int)=p∧(((x+1) / 2:Nat):Int)=p+1∧(x:Int)-p*2=1)∨(((x / 2:Nat):Int)=p+1∧(((x+1) / 2:Nat):Int)=p+1∧(x:Int)-p*2=2)):=by
 refine ⟨_,rfl,?_⟩
 omega
theorem atv_two {W H:Nat} {v:Nat→Int} {x y:Nat} (hW:1≤W) (hH:1≤H) (hx:x≤2*W) (hy:y≤2*H):atv W H v x y 2=rfv W v x y:=by
 obtain ⟨p,e1,h1⟩:=half_cases hW hx
 obtain ⟨q,e2,h2⟩:=half_cases hH hy
 unfold atv rfv
 rw [e1,e2]
 unfold lowT uppT
 rcases h1 with ⟨a1,a2,a3⟩ | ⟨a1,a2,a3⟩ | ⟨a1,a2,a3⟩<;>rcases h2 with ⟨b1,b2,b3⟩ | ⟨b1,b2,b3⟩ | ⟨b1,b2,b3⟩<;>rw [a1,a2,a3,b1,b2,b3]
 ·rw [if_pos (by omega)];omega
 ·rw [if_neg (by omega)];omega
 ·rw [if_neg (by omega)];omega
 ·rw [if_pos (by omega)];omega
 ·rw [if_pos (by omega)];omega
 ·rw [if_neg (by omega)];omega
 ·rw [if_pos (by omega)];omega
 ·rw [if_pos (by omega)];omega
 ·rw [if_pos (by omega)];omega
def rfF (W:Nat) (v:Nat→Int) (i:Nat):Int:=rfv W v (i % (2*W+1)) (i / (2*W+1))
theorem rfF_at {W:Nat} (v:Nat→Int) {x y:Nat} (hx:x≤2*W):rfF W v (y*(2*W+1)+x)=rfv W v x y:=by
 unfold rfF
 rw [Nat.mul_comm y,Nat.mul_add_mod,Nat.mod_eq_of_lt (by omega),Nat.mul_add_div (by omega),Nat.div_eq_of_lt (by omega),Nat.add_zero]
theorem rfv_bd {W H:Nat} {v:Nat→Int} (h:OkV W H v) {x y:Nat} (hx:x≤2*W) (hy:y≤2*H):0≤rfv W v x y∧rfv W v x y≤200:=by
 have a:=nv_bd h (cx:=((x / 2:Nat):Int)) (cy:=((y / 2:Nat):Int)) (by omega) (by omega) (by omega) (by omega)
 have b:=nv_bd h (cx:=(((x+1) / 2:Nat):Int)) (cy:=(((y+1) / 2:Nat):Int)) (by omega) (by omega) (by omega) (by omega)
 unfold rfv
 omega
noncomputable def rfE (W H:Int) (L:List Int):Option (List Int):=(loopM (fun (s:Int×List Int)=>bif ltM s.1
 (wrap IntKind.i64 (wrap IntKind.i64 (2*H)+1)) then (loopM (fun (s_1:Int×List Int)=>bif ltM s_1.1 (wrap IntKind.i64 (wrap IntKind.i64 (2*W) +
 1)) then (divM IntKind.i64 s_1.1 2).bind fun r_1=>(divM IntKind.i64 s.1 2).bind fun r_2=>(idxM L (wrap IntKind.i64 (wrap IntKind.i64 (r_2*wrap
 IntKind.i64 (W+1))+r_1))).bind fun r_3=>(divM IntKind.i64 (wrap IntKind.i64 (s_1.1+1)) 2).bind fun r_4=>(divM IntKind.i64 (wrap IntKind.i64 (s.1 +
 1)) 2).bind fun r_5=>(idxM L (wrap IntKind.i64 (wrap IntKind.i64 (r_5*wrap IntKind.i64 (W+1))+r_4))).bind fun r_6=>(appM (nat_lit 8) s_1.2
 [wrap IntKind.i64 (r_3+r_6)]).bind fun r=>some (Sum.inl (wrap IntKind.i64 (s_1.1+1),r)) else some (Sum.inr s_1.2)) (0,s.2)).bind fun o=>some
 (Sum.inl (wrap IntKind.i64 (s.1+1),o)) else some (Sum.inr s.2)) (0,[])).bind fun o=>some o
theorem idx_bd {W H x y:Nat} (w6:W≤6) (h6:H≤6) (hx:x≤2*W+1) (hy:y<2*H+1):y*(2*W+1)+x≤169∧(2*H+1)*(2*W+1)≤169:=by
 have h1:(y+1)*(2*W+1)≤(2*H+1)*(2*W+1):=Nat.mul_le_mul_right _ hy
 have h2:(2*H+1)*(2*W+1)≤13*13:=Nat.mul_le_mul (by omega) (by omega)
 rw [Nat.add_mul,Nat.one_mul] at h1
 omega
theorem rfE_ok {W H:Nat} {v:Nat→Int} (h:OkV W H v):rfE W H (row (nn W H) v)=some (row ((2*H+1)*(2*W+1)) (rfF W v)):=by
 have w6:=h.w6
 have h6:=h.h6
 have w1:=h.w1
 have h1:=h.h1
 unfold rfE
 refine bind_of (x:=row ((2*H+1)*(2*W+1)) (rfF W v)) ?_ rfl
 have e0:([]:List Int)=row (0*(2*W+1)) (rfF W v):=by rw [Nat.zero_mul,row_zero]
 have eW:wrap IntKind.i64 (wrap IntKind.i64 (2*(W:Int))+1)=((2*W+1:Nat):Int):=by rw [wrap_in (n:=2*(W:Int)) (by omega) (by omega),wrap_in (by omega) (by omega)];omega
 have eH:wrap IntKind.i64 (wrap IntKind.i64 (2*(H:Int))+1)=((2*H+1:Nat):Int):=by rw [wrap_in (n:=2*(H:Int)) (by omega) (by omega),wrap_in (by omega) (by omega)];omega
 rw [eW,eH]
 refine Eq.trans (congrArg (fun l=>loopM _ ((0:Int),l)) e0) (count_loop (fun y=>row (y*(2*W+1)) (rfF W v)) (2*H+1) (fun y hy=>?_) ?_)
 ·dsimp only
  rw [ltI (by omega),cond_true,wrap_in (n:=(y:Int)+1) (by omega) (by omega)]
  refine bind_of (x:=row ((y+1)*(2*W+1)) (rfF W v)) ?_ rfl
  refine count_loop (fun x=>row (y*(2*W+1)+x) (rfF W v)) (2*W+1) (fun x hx=>?_) ?_
  ·have hb:=rfv_bd h (x:=x) (y:=y) (by omega) (by omega)
   have hi:=idx_bd w6 h6 (x:=x) (y:=y) (by omega) hy
   have d1:(x:Int) / 2=((x / 2:Nat):Int):=by omega
   have d2:(y:Int) / 2=((y / 2:Nat):Int):=by omega
   have d3:((x:Int)+1) / 2=(((x+1) / 2:Nat):Int):=by omega
   have d4:((y:Int)+1) / 2=(((y+1) / 2:Nat):Int):=by omega
   dsimp only
   rw [ltI (by omega),cond_true,wrap_in (n:=(x:Int)+1) (by omega) (by omega),tdiv_nn (by omega) (by omega) (by omega),Option.bind_some,tdiv_nn (by omega) (by omega) (by omega),Option.bind_some,d1,d2,node_ok w6 h6 (by omega) (by omega) (by omega) (by omega),Option.bind_some,tdiv_nn (by omega) (by omega) (by omega),Option.bind_some,tdiv_nn (by omega) (by omega) (by omega),Option.bind_some,d3,d4,node_ok w6 h6 (by omega) (by omega) (by omega) (by omega),Option.bind_some]
   have e:nv W v ((x / 2:Nat):Int) ((y / 2:Nat):Int)+nv W v (((x+1) / 2:Nat):Int) (((y+1) / 2:Nat):Int)=rfv W v x y:=rfl
   rw [e,wrap_in (n:=rfv W v x y) (by omega) (by omega),app_rowOf (y:=rfv W v x y) (g:=rfF W v) (rfF_at v (by omega)).symm (by show (y*(2*W+1)+x+1)*8≤_;omega)];rfl
  ·dsimp only
   rw [geI (by omega),cond_false,Nat.add_mul,Nat.one_mul]
 ·dsimp only
  rw [geI (by omega),cond_false]
theorem refine_ok {t:Fld} (hr:RngF t):Sam (m25 t) (m26 t):=by
 rcases valid_cases t hr with ⟨W,H,lo,hi,hF,rfl⟩ | ⟨e1,e2⟩
 ·have v1:=valid_ok hF
  have v2:=valid2_ok hF
  have hat:=fun x y:Int=>at2_ok hF x y 2
  have w6:=hF.w6
  have h6:=hF.h6
  have w1:=hF.w1
  have h1:=hF.h1
  have hn:=(idx_bd w6 h6 (x:=0) (y:=0) (by omega) (by omega)).2
  unfold m25 m26 fd at *
  dsimp only
  rw [v1,v2,Option.bind_some,Option.bind_some,notT,cond_false,cond_false]
  have E2:loopM (fun (s:Int×Int×Int×List Int ×
    List Int)=>bif leM s.1 s.2.2.1 then (loopM (fun (s_1:Int×Int×Int×List Int×List Int)=>bif leM s_1.1 s_1.2.1 then (m21 (((W:Int),(H:Int),row (nn W H) lo,
    row (nn W H) hi),s_1.1,s.1,2)).bind fun r_1=>(appM (nat_lit 8) s_1.2.2.2.1 [r_1.1]).bind fun r_2=>(appM (nat_lit 8) s_1.2.2.2.2 [r_1.2.1]).bind fun r=>some
    (Sum.inl (wrap IntKind.i64 (s_1.1+1),s_1.2.1,s_1.2.2.1,r_2,r)) else some (Sum.inr (s_1.2.1,s_1.2.2.1,s_1.2.2.2.1,s_1.2.2.2.2))) (0,s.2.1,s.2.2.1,
    s.2.2.2.1,s.2.2.2.2)).bind fun o=>some (Sum.inl (wrap IntKind.i64 (s.1+1),o.1,o.2.1,o.2.2.1,o.2.2.2)) else some (Sum.inr (s.2.1,s.2.2.1,s.2.2.2.1,
    s.2.2.2.2))) (0,wrap IntKind.i64 (2*(W:Int)),wrap IntKind.i64 (2*(H:Int)),[],[])=some (wrap IntKind.i64 (2*(W:Int)),wrap IntKind.i64 (2*(H:Int)),row ((2*H+1)*(2*W+1)) (rfF W lo),row ((2*H+1)*(2*W+1)) (rfF W hi)):=by
   rw [wrap_in (n:=2*(W:Int)) (by omega) (by omega),wrap_in (n:=2*(H:Int)) (by omega) (by omega)]
   have e0:((2*(W:Int),2*(H:Int),([]:List Int),([]:List Int)):Int×Int×List Int×List Int)=(2*(W:Int),2*(H:Int),row (0*(2*W+1)) (rfF W lo),row (0*(2*W+1)) (rfF W hi)):=by rw [Nat.zero_mul,row_zero,row_zero]
   refine Eq.trans (congrArg (fun l=>loopM _ ((0:Int),l)) e0) (count_loop (fun y=>(2*(W:Int),2*(H:Int),row (y*(2*W+1)) (rfF W lo),row (y*(2*W+1)) (rfF W hi))) (2*H+1) (fun y hy=>?_) ?_)
   ·dsimp only
    rw [leI (by omega),cond_true,wrap_in (n:=(y:Int)+1) (by omega) (by omega)]
    refine bind_of (x:=(2*(W:Int),2*(H:Int),row ((y+1)*(2*W+1)) (rfF W lo),row ((y+1)*(2*W+1)) (rfF W hi))) ?_ rfl
    refine count_loop (fun x=>(2*(W:Int),2*(H:Int),row (y*(2*W+1)+x) (rfF W lo),row (y*(2*W+1)+x) (rfF W hi))) (2*W+1) (fun x hx=>?_) ?_
    ·have hi':=idx_bd w6 h6 (x:=x) (y:=y) (by omega) hy
     dsimp only
     rw [leI (by omega),cond_true,hat,Option.bind_some,wrap_in (n:=(x:Int)+1) (by omega) (by omega)]
     unfold atR
     rw [if_pos (by omega)]
     dsimp only
     rw [atv_two w1 h1 (by omega) (by omega),atv_two w1 h1 (by omega) (by omega),app_rowOf (y:=rfv W lo x y) (g:=rfF W lo) (rfF_at lo (by omega)).symm (by show (y*(2*W+1)+x+1)*8≤_;omega),Option.bind_some,app_rowOf (y:=rfv W hi x y) (g:=rfF W hi) (rfF_at hi (by omega)).symm (by show (y*(2*W+1)+x+1)*8≤_;omega)];rfl
    ·dsimp only
     rw [gtI (by omega),cond_false,Nat.add_mul,Nat.one_mul]
   ·dsimp only
    rw [gtI (by omega),cond_false]
  have hR:RngF (wrap IntKind.i64 (2*(W:Int)),wrap IntKind.i64 (2*(H:Int)),row ((2*H+1)*(2*W+1)) (rfF W lo),row ((2*H+1)*(2*W+1)) (rfF W hi)):=by
   unfold RngF
   dsimp only
   rw [row_length,row_length]
   show _≤9223372036854775807∧_≤9223372036854775807
   omega
  rw [E2,Option.bind_some]
  obtain ⟨r,q1,q2,q3⟩:=sam_made hR (f:=fun r=>some ((r.1.1,r.1.2.1,r.1.2.2.1,r.1.2.2.2),r.2)) (g:=fun r=>some ((r.1.1,r.1.2.1,r.1.2.2.1,r.1.2.2.2),r.2)) (fun r=>rfl) (fun r=>rfl)
  refine ⟨r,?_,q2,q3⟩
  refine bind_of (rfE_ok hF.okLo) ?_
  refine bind_of (rfE_ok hF.okHi) ?_
  exact q1
 ·obtain ⟨W,H,Lo,Hi⟩:=t
  unfold m25 m26
  dsimp only
  rw [e1,e2]
  exact ⟨_,rfl,rfl,rng_zero⟩
theorem at_same {t:Fld} (hr:RngF t) (x y d:Int):∃ r,m20 (t,x,y,d)=some r∧m21 (t,x,y,d)=some r:=by
 rcases valid_cases t hr with ⟨W,H,lo,hi,hF,rfl⟩ | ⟨e1,e2⟩
 ·exact ⟨_,at_ok hF x y d,at2_ok hF x y d⟩
 ·obtain ⟨W,H,Lo,Hi⟩:=t
  unfold m20 m21
  dsimp only
  rw [e1,e2]
  exact ⟨_,rfl,rfl⟩
theorem int_same {t:Fld} (hr:RngF t):∃ r,m15 t=some r∧m16 t=some r:=by
 rcases valid_cases t hr with ⟨W,H,lo,hi,hF,rfl⟩ | ⟨e1,e2⟩
 ·exact ⟨_,integral_ok hF,integral2_ok hF⟩
 ·obtain ⟨W,H,Lo,Hi⟩:=t
  unfold m15 m16
  dsimp only
  rw [e1,e2]
  exact ⟨_,rfl,rfl⟩
theorem val_same {t:Fld} (hr:RngF t):∃ r,m17 t=some r∧m18 t=some r:=by
 rcases valid_cases t hr with ⟨W,H,lo,hi,hF,rfl⟩ | ⟨e1,e2⟩
 ·exact ⟨_,valid_ok hF,valid2_ok hF⟩
 ·exact ⟨_,e1,e2⟩
theorem chg_same {t:Fld} (hr:RngF t) {W' H':Nat} {lo' hi':Nat→Int} (hG:OkF W' H' lo' hi'):∃ r,m29 (fd W' H' lo' hi',t)=some r∧m30 (fd W' H' lo' hi',t)=some r∧r.1.length≤maxLen:=by
 have g1:=valid_ok hG
 have g2:=valid2_ok hG
 rcases valid_cases t hr with ⟨W,H,lo,hi,hF,rfl⟩ | ⟨e1,e2⟩
 ·by_cases hW:W'=W∧H'=H
  ·obtain ⟨rfl,rfl⟩:=hW
   have h49:=nn_bd hF.w6 hF.h6
   exact ⟨_,changed_ok hG hF,changed2_ok hG hF,by dsimp only;rw [row_length];show _≤9223372036854775807;omega⟩
  ·have v1:=valid_ok hF
   have v2:=valid2_ok hF
   unfold m29 m30 fd at *
   dsimp only
   rw [g1,g2,Option.bind_some,Option.bind_some,notT,notF,cond_true,cond_true,v1,v2,Option.bind_some,Option.bind_some,notT,orF,orF]
   have e:PE.orM (PE.notM (eqM (W':Int) W)) (PE.notM (eqM (H':Int) H))=true:=by
    by_cases h1:W'=W
    ·rw [neI (a:=(H':Int)) (by omega)];cases eqM (W':Int) W<;>rfl
    ·rw [neI (a:=(W':Int)) (by omega)];rfl
   rw [e]
   exact ⟨_,rfl,rfl,Nat.zero_le _⟩
 ·obtain ⟨W,H,Lo,Hi⟩:=t
  unfold m29 m30 fd at *
  dsimp only
  rw [g1,g2,Option.bind_some,Option.bind_some,notT,notF,cond_true,cond_true,e1,e2]
  exact ⟨_,rfl,rfl,Nat.zero_le _⟩
theorem bent_ok {W H:Nat} {lo hi:Nat→Int} (h:OkF W H lo hi) {how n at_:Int} (h1:i64 how) (h3:i64 at_):Ans (m14 (fd W H lo hi,how,n,at_)) RngF:=by
 have h49:=nn_bd h.w6 h.h6
 have hpos:=nn_pos W H
 unfold m14 fd
 dsimp only
 rw [appM_of (by rw [row_length];show (0+nn W H)*8≤_;omega),Option.bind_some,appM_of (by rw [row_length];show (0+nn W H)*8≤_;omega),Option.bind_some,pick_ok h1 (by omega),Option.bind_some,List.nil_append,List.nil_append]
 have a:=pk_lo (c:=at_) (n:=(nn W H:Int)) (by omega)
 have b:=pk_hi (c:=at_) (n:=(nn W H:Int)) (by omega)
 have hR:∀ (x y:Int) (l m:List Int),l.length≤100→m.length≤100→RngF (x,y,l,m):=fun x y l m hl hm=>by
  show l.length≤9223372036854775807∧m.length≤9223372036854775807
  omega
 refine Ans.bind (P:=RngF) ?_ fun o ho=>.of rfl ho
 refine Ans.cond (fun _=>.of rfl (hR _ _ _ _ (by rw [row_length];omega) (by rw [row_length];omega))) fun _=>?_
 refine Ans.cond (fun _=>.of rfl (hR _ _ _ _ (by rw [row_length];omega) (by rw [row_length];omega))) fun _=>?_
 obtain ⟨j,hj⟩:∃ j:Nat,pk at_ (nn W H:Int)=(j:Int):=⟨(pk at_ (nn W H:Int)).toNat,by omega⟩
 refine Ans.cond (fun _=>?_) fun _=>?_
 ·rw [lenR,pick_ok h3 (by omega),Option.bind_some,hj,chkM_of (by omega) (by omega),Option.bind_some,set_rowA (by omega),Option.bind_some]
  exact .of rfl (hR _ _ _ _ (by rw [row_length];omega) (by rw [row_length];omega))
 refine Ans.cond (fun _=>?_) fun _=>?_
 ·rw [lenR,pick_ok h3 (by omega),Option.bind_some,hj,chkM_of (by omega) (by omega),Option.bind_some,set_rowA (by omega),Option.bind_some]
  exact .of rfl (hR _ _ _ _ (by rw [row_length];omega) (by rw [row_length];omega))
 refine Ans.cond (fun _=>?_) fun _=>?_
 ·rw [lenR,wrap_in (by omega) (by omega),sliceM_of (by omega) (by omega) (by rw [row_length];omega),Option.bind_some]
  refine .of rfl (hR _ _ _ _ ?_ (by rw [row_length];omega))
  rw [List.length_drop,List.length_take,row_length];omega
 ·rw [appM_of (by rw [row_length];show (nn W H+1)*8≤_;omega),Option.bind_some]
  exact .of rfl (hR _ _ _ _ (by rw [row_length];omega) (by rw [List.length_append,row_length];show nn W H+1≤100;omega))
end Go.Proofs.YtdaaoecjdhipjaaGreatDoor
namespace Go.Proofs.YtdaaoecjdhipjaaGreatDoor
open Go Go.Abs Go.PE
open Go.IntKind (wrap)
theorem eqb_self (b:Bool):eqbM b b=true:=decide_eq_true rfl
theorem len4 {α:Type} (a b c d:α):lenM [a,b,c,d]=4:=rfl
theorem len2 {α:Type} (a b:α):lenM [a,b]=2:=rfl
theorem idx4 {α:Type} {P:α→Prop} {a b c d:α} (ha:P a) (hb:P b) (hc:P c) (hd:P d) {k:Nat} (hk:k<4):∃ t,idxM [a,b,c,d] (k:Int)=some t∧P t:=by
 rcases (show k=0∨k=1∨k=2∨k=3 by omega) with rfl | rfl | rfl | rfl
 ·exact ⟨a,rfl,ha⟩
 ·exact ⟨b,rfl,hb⟩
 ·exact ⟨c,rfl,hc⟩
 ·exact ⟨d,rfl,hd⟩
theorem idx2 {α:Type} {a b:α} {k:Nat} (hk:k<2):∃ t,idxM [a,b] (k:Int)=some t:=by
 rcases (show k=0∨k=1 by omega) with rfl | rfl
 ·exact ⟨a,rfl⟩
 ·exact ⟨b,rfl⟩
theorem cut_ok {l:List Int} (hl:l.length≤maxLen):∃ r,sliceM l 0 (min (lenM l) 50)=some r∧r.length≤maxLen:=by
 have hl:l.length≤9223372036854775807:=hl
 have hm:min (lenM l) 50=((min l.length 50:Nat):Int):=by rw [lenL];omega
 refine ⟨l.take (min l.length 50),?_,?_⟩
 ·rw [hm,sliceM_of (by omega) (by omega) (by omega)];rfl
 ·rw [List.length_take];show _≤9223372036854775807;omega
theorem law3_ok (x:(Int×Int×Int×Int)×(List (Int×Int))×(List (Int×Int))×(Int×Int×Int)×(Int×Int×List Int×List Int)×Int×Int×Int×Int) (h1:i64 x.1.1) (h2:i64 x.1.2.1) (h3:i64 x.1.2.2.1) (h4:i64 x.1.2.2.2)
  (a1:∀ p∈x.2.1,i64 p.1∧i64 p.2) (l1:x.2.1.length≤maxLen) (a2:∀ p∈x.2.2.1,i64 p.1∧i64 p.2) (l2:x.2.2.1.length≤maxLen) (b1:i64 x.2.2.2.1.1) (b3:i64 x.2.2.2.1.2.2)
  (r1:x.2.2.2.2.1.2.2.1.length≤maxLen) (r2:x.2.2.2.2.1.2.2.2.length≤maxLen) (p1:i64 x.2.2.2.2.2.1) (p2:i64 x.2.2.2.2.2.2.1) (p3:i64 x.2.2.2.2.2.2.2.1) (p4:i64 x.2.2.2.2.2.2.2.2):m3 x=some true:=by
 obtain ⟨⟨s0,s1,s2,s3⟩,xs,ys,⟨bh,bn,ba⟩,⟨rW,rH,rLo,rHi⟩,px,py,d,n⟩:=x
 dsimp only at h1 h2 h3 h4 a1 l1 a2 l2 b1 b3 r1 r2 p1 p2 p3 p4
 have F1:=made_F (w:=s0) (h:=s1) (size:=6) (most:=60) (x:=xs) (by omega) (by omega) (by omega) (by omega)
 have F2:=made_F (w:=s0) (h:=s1) (size:=6) (most:=60) (x:=ys) (by omega) (by omega) (by omega) (by omega)
 have F3:=made_F (w:=s2) (h:=s3) (size:=3) (most:=50) (x:=ys) (by omega) (by omega) (by omega) (by omega)
 have e1:=made_ok (size:=6) (most:=60) h1 h2 (by omega) (by omega) (by omega) (by omega) a1 l1
 have e2:=made_ok (size:=6) (most:=60) h1 h2 (by omega) (by omega) (by omega) (by omega) a2 l2
 have e3:=made_ok (size:=3) (most:=50) h3 h4 (by omega) (by omega) (by omega) (by omega) a2 l2
 obtain ⟨q4,e4,hq4⟩:=cut_ok r1
 obtain ⟨q5,e5,hq5⟩:=cut_ok r2
 have hbent:=bent_ok F1 (n:=bn) b1 b3
 generalize szF s0 6=W at *
 generalize szF s1 6=H at *
 generalize szF s2 3=W3 at *
 generalize szF s3 3=H3 at *
 generalize loF 60 xs=lo at *
 generalize hiF 60 xs=hi at *
 generalize loF 60 ys=lo' at *
 generalize hiF 60 ys=hi' at *
 generalize loF 50 ys=lo3 at *
 generalize hiF 50 ys=hi3 at *
 obtain ⟨bt,e6,hbt⟩:=hbent
 have R1:RngF (fd W H lo hi):=rng_fd (by have:=F1.w6;omega) (by have:=F1.h6;omega)
 have R3:RngF (fd W3 H3 lo3 hi3):=rng_fd (by have:=F3.w6;omega) (by have:=F3.h6;omega)
 have R4:RngF (rW,rH,q4,q5):=⟨hq4,hq5⟩
 have hG:=F2
 unfold m3
 dsimp only
 rw [sane_ok,Option.bind_some,notT,cond_false,e1,Option.bind_some,e2,Option.bind_some,e3,Option.bind_some,e4,Option.bind_some,e5,Option.bind_some]
 refine bind_of (show m14 _=some bt from e6) ?_
 refine bind_of (x:=.inl ()) ?_ rfl
 refine loopM_fn (fun k=>(k:Int)) 4 (fun k hk=>?_) rfl
 obtain ⟨t,et,hR⟩:=idx4 (P:=RngF) (a:=(((fd W H lo hi).1,(fd W H lo hi).2.1,(fd W H lo hi).2.2.1,(fd W H lo hi).2.2.2):Fld)) (b:=((fd W3 H3 lo3 hi3).1,(fd W3 H3 lo3 hi3).2.1,(fd W3 H3 lo3 hi3).2.2.1,(fd W3 H3 lo3 hi3).2.2.2)) (c:=(bt.1,bt.2.1,bt.2.2.1,bt.2.2.2)) (d:=(rW,rH,q4,q5)) R1 R3 hbt R4 hk
 rw [len4,ltI (by omega),cond_true,et,Option.bind_some]
 obtain ⟨tW,tH,tLo,tHi⟩:=t
 dsimp only
 obtain ⟨iv,i1,i2⟩:=int_same hR
 obtain ⟨vv,v1,v2⟩:=val_same hR
 have m1:=pk_lo (c:=d) (n:=60) (by omega)
 have m2:=pk_hi (c:=d) (n:=60) (by omega)
 rw [i1,i2,v1,v2,Option.bind_some,Option.bind_some,Option.bind_some,Option.bind_some,eqb_self,notT,orF,eqI rfl,notT,orF,eqI rfl,notT,cond_false,pickL_ok p3 (by omega),Option.bind_some,wrap_in (n:=1+pk d 60) (by omega) (by omega),wrap_in (n:=7*_) (by omega) (by omega),pickL_ok p1 (by omega),Option.bind_some,pickL_ok p2 (by omega),Option.bind_some]
 refine bind_of (x:=.inl ()) ?_ ?_
 ·refine loopM_fn (fun k=>(k:Int)) 2 (fun k hk=>?_) rfl
  obtain ⟨u,eu⟩:=idx2 (a:=(px,py,d)) (b:=(pk px (7*(1+pk d 60)),pk py (7*(1+pk d 60)),1+pk d 60)) hk
  obtain ⟨av,c1,c2⟩:=at_same hR u.1 u.2.1 u.2.2
  rw [len2,ltI (by omega),cond_true,eu,Option.bind_some,c1,Option.bind_some,c2,Option.bind_some,eqI rfl,notT,orF,eqI rfl,notT,orF,eqI rfl,notT,cond_false,wrap_in (by omega) (by omega)];rfl
 rw [Sum.elim_inl,pickL_ok p4 (by omega),Option.bind_some]
 refine bind_of (x:=.inl ()) ?_ ?_
 ·refine loopM_fn (fun k=>(k:Int)) 2 (fun k hk=>?_) rfl
  obtain ⟨u,eu⟩:=idx2 (a:=n) (b:=pk n 4) hk
  obtain ⟨sv,c1,c2,c3⟩:=scale_ok hR u
  have c4:=same_ok c3
  rw [len2,ltI (by omega),cond_true,eu,Option.bind_some,c1,Option.bind_some,c2,Option.bind_some,eqI rfl,notT,notF,cond_true]
  rw [show m24 ((sv.1.1,sv.1.2.1,sv.1.2.2.1,sv.1.2.2.2),sv.1.1,sv.1.2.1,sv.1.2.2.1,sv.1.2.2.2)=some true from c4,Option.bind_some,orF,notT,cond_false,wrap_in (by omega) (by omega)];rfl
 obtain ⟨fv,f1,f2,f3⟩:=refine_ok hR
 obtain ⟨gv,g1,g2,g3⟩:=add_ok hR hG
 obtain ⟨hv,h1',h2',h3'⟩:=chg_same hR hG
 have s1':=same_ok f3
 have s2':=same_ok g3
 rw [Sum.elim_inl,f1,Option.bind_some,f2,Option.bind_some]
 refine bind_of (show m27 _=some gv from g1) ?_
 refine bind_of (show m28 _=some gv from g2) ?_
 refine bind_of (show m29 _=some hv from h1') ?_
 refine bind_of (show m30 _=some hv from h2') ?_
 rw [eqI (a:=fv.2) rfl,eqI (a:=gv.2) rfl,eqI (a:=hv.2) rfl,notT,orF,orF,notF,cond_true]
 rw [show m24 ((fv.1.1,fv.1.2.1,fv.1.2.2.1,fv.1.2.2.2),fv.1.1,fv.1.2.1,fv.1.2.2.1,fv.1.2.2.2)=some true from s1',Option.bind_some,notT,orF,notF,cond_true]
 rw [show m24 ((gv.1.1,gv.1.2.1,gv.1.2.2.1,gv.1.2.2.2),gv.1.1,gv.1.2.1,gv.1.2.2.1,gv.1.2.2.2)=some true from s2',Option.bind_some,notT,orF,notF,cond_true]
 rw [ints_ok hv.1 h3',Option.bind_some,notT,orF,cond_false,wrap_in (by omega) (by omega)];rfl
end Go.Proofs.YtdaaoecjdhipjaaGreatDoor
namespace Go.Proofs.YtdaaoecjdhipjaaGreatDoor
open Go Go.Abs Go.PE
theorem mem_in {t:Ty} {l:List t.den} (h:InR (.list t) l):∀ x∈l,InR t x:=fun x hx=>by
 obtain ⟨i,hi,rfl⟩:=List.mem_iff_getElem.1 hx
 exact h.2 i _ (List.getElem?_eq_getElem hi)
theorem law3:∀ (S:Cells) (w:World) (η:Eta) (vs:List Value) x,All2 (RM S w η) (rvs as3 x) vs→m3 x=some true :=
 law_of_ok fun x h=>law3_ok x h.1.1 h.1.2.1 h.1.2.2.1 h.1.2.2.2 (mem_in h.2.1) h.2.1.1 (mem_in h.2.2.1) h.2.2.1.1 h.2.2.2.1.1 h.2.2.2.1.2.2 h.2.2.2.2.1.2.2.1.1 h.2.2.2.2.1.2.2.2.1 h.2.2.2.2.2.1 h.2.2.2.2.2.2.1 h.2.2.2.2.2.2.2.1 h.2.2.2.2.2.2.2.2
end Go.Proofs.YtdaaoecjdhipjaaGreatDoor
